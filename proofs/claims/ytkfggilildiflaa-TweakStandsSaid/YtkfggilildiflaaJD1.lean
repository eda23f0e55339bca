/-
  Laws that the claims of this seat use, of several texts in one: Append2, EngB, Perm, Fluid, PermR, LateR, RangeP, PostM. No condition of their own.
-/
import Derived.Laws.Tables
import Derived.Test.YtkfggilildiflaaJD0

namespace Go.Proofs.Ytkfggilildiflaa
open Go.ChangeShapes Go.WideShapes Go.ChangeAt Go.RowKit
attribute [local irreducible] wpList wpListIn
section
variable {P : Program} {ops : Array Oper} {W : List Oper → Act → World → Prop} {o : Oper} {rest : List Oper} {a : Act} {w : World} {v : Value} {B : Nat} {H : World → List Blk → Prop} {L : List Blk}
theorem s_appendR {x y : Operand} {t e size bytes b n c m c2 i nm : Nat} {q : Addr} {cs : Array Value} {olds spare xs : List Value} (hs : Stp P ops W) (hH : Own B H) (hS : H w L) (hw : Region.wanted o (yielded ops a.tmps) = true)
    (hop : o.op = .call { callee := .builtin .append, args := #[x, y], argTypes := #[t, t] }) (hx : evO a x = some (.slice (some ⟨b, 0, none⟩) n c)) (hy : evO a y = some (.slice (some q) m c2)) (hT : SlT P t e size bytes)
    (hi : L[i]? = some (b, cs, e)) (hcs : cs.toList = olds ++ spare) (ho : olds.length = n * size) (hsp : spare.length = (c - n) * size) (hsrc : ∀ j v, xs[j]? = some v → w.cell? (q.add j) = some v) (hxs : xs.length = m * size) (hone : ∀ v ∈ xs, v.oneCell' = true)
    (hroom : n + m ≤ c) (hnm : n + m = nm)
    (hk : ∀ w', H w' (L.set i (b, (olds ++ xs ++ spare.drop xs.length).toArray, e)) → W rest (a.put o.dst (.slice (some ⟨b, 0, none⟩) nm c)) w') : W (o :: rest) a w := by
  subst hnm
  obtain ⟨ht, inf, z, hie, hz, hsz, hby, hzs, hpos⟩ := elemB_iff hT.is
  have hd : isDefer o = false := by unfold isDefer; rw [hop]
  have hb := hH.blk i hS hi
  have hcsz : cs.size = olds.length + spare.length := by rw [← Array.length_toList, hcs, List.length_append]
  have hfit : n * inf.size + xs.length ≤ cs.size := by
    rw [hcsz, hsz, ho, hsp, hxs]
    have : m * size ≤ (c - n) * size := Nat.mul_le_mul_right _ (by omega)
    omega
  have hr := run_append_room (P := P) w t o.type e inf ht hie b n c cs hb q m c2 xs (by rw [hsz]; exact hxs) hsrc hone hroom hfit
  refine hs.go hw hd (run_app hop hx hy hr) ?_
  have hrow : (cs.toList.take (n * inf.size) ++ xs ++ cs.toList.drop (n * inf.size + xs.length)).toArray = (olds ++ xs ++ spare.drop xs.length).toArray := by
    rw [hcs, hsz, ← ho, List.take_left, List.drop_append, Nat.add_sub_cancel_left, List.drop_of_length_le (by omega), List.nil_append]
  rw [hrow]
  exact hk _ (hH.setRow i (olds ++ xs ++ spare.drop xs.length).toArray hS hi)
theorem s_appendG {x y : Operand} {t e size bytes b n c m c2 i nm : Nat} {q : Addr} {cs : Array Value} {olds spare xs : List Value} (hs : Stp P ops W) (hH : Own B H) (hS : H w L) (hw : Region.wanted o (yielded ops a.tmps) = true)
    (hop : o.op = .call { callee := .builtin .append, args := #[x, y], argTypes := #[t, t] }) (hx : evO a x = some (.slice (some ⟨b, 0, none⟩) n c)) (hy : evO a y = some (.slice (some q) m c2)) (hT : SlT P t e size bytes)
    (hi : L[i]? = some (b, cs, e)) (hcs : cs.toList = olds ++ spare) (ho : olds.length = n * size) (_hnc : n ≤ c) (hsrc : ∀ j v, xs[j]? = some v → w.cell? (q.add j) = some v) (hxs : xs.length = m * size)
    (hmax : n + m ≤ maxLen ∧ (n + m) * bytes ≤ 140737488355328) (hroom : c < n + m) (hnm : n + m = nm)
    (hk : ∀ (b' c' : Nat) (spare' : List Value) (w' : World), nm ≤ c' → c' ≤ maxLen → spare'.length = (c' - nm) * size → H w' ((b', (olds ++ xs ++ spare').toArray, e) :: L) → W rest (a.put o.dst (.slice (some ⟨b', 0, none⟩) nm c')) w') : W (o :: rest) a w := by
  subst hnm
  obtain ⟨ht, inf, z, hie, hz, hsz, hby, hzs, hpos⟩ := elemB_iff hT.is
  have hd : isDefer o = false := by unfold isDefer; rw [hop]
  have hb := hH.blk i hS hi
  have hr := run_append_grow (P := P) (w := w) t o.type e inf z ht hie hz ⟨b, 0, none⟩ n c olds (by rw [hsz]; exact ho) (fun j u hu => by
    rw [addr_add, Nat.zero_add]
    refine (cell_of_row w b j cs e _ hb).trans ?_
    rw [← Array.getElem?_toList, hcs, List.getElem?_append_left (List.getElem?_eq_some_iff.1 hu).1, hu]) q m c2 xs (by rw [hsz]; exact hxs) hsrc (by omega) (by have := hmax.1; unfold maxLen at this; omega) (growslice_fits (by omega) (by rw [hby]; exact hmax.2))
  have hcap := grownCap_ge w (n + m) c e
  have hcm := grownCap_le_maxLen w (n + m) c e hmax.1
  refine hs.go hw hd (run_app hop hx hy hr) ?_
  generalize grownCap w (n + m) c e = c' at *
  have hcell : olds.toArray ++ xs.toArray ++ Builtin.zeroCells z.cells (c' - (n + m)) = (olds ++ xs ++ (Builtin.zeroCells z.cells (c' - (n + m))).toList).toArray := by
    apply Array.ext'; simp
  rw [hcell]
  have hS1 : H w.drew L := hH.call hS ⟨rfl, rfl, rfl, Nat.le_refl _, fun _ _ => rfl⟩
  have h2 := hH.alloc (olds ++ xs ++ (Builtin.zeroCells z.cells (c' - (n + m))).toList).toArray e hS1
  refine hk _ c' _ _ hcap hcm ?_ h2
  rw [Array.length_toList, size_zeroCells, hzs]
theorem r_appendN {x y : Operand} {t e size bytes n c : Nat} {p : Addr} (hop : o.op = .call { callee := .builtin .append, args := #[x, y], argTypes := #[t, t] }) (hx : evO a x = some (.slice (some p) n c)) (hy : evO a y = some (.slice none 0 0)) (hT : SlT P t e size bytes) (hnc : n ≤ c) : (execOp a.eval o).run P w = .ok (.value (.slice (some p) n c)) w := by
  obtain ⟨ht, inf, z, hie, hz, hsz, hby, hzs, hpos⟩ := elemB_iff hT.is
  exact run_app hop hx hy (by simp [Builtin.append_, run_underlying ht, sizeOf, typeInfo, hie, Builtin.lenOf, Builtin.firstCells, hnc, storeCells])
theorem r_convB {s t : TypeId} {x : Operand} {k ks : IntKind} {n : Int} (N : Nat) (hop : o.op = .convert s t x) (hx : evO a x = some (.int k n)) (hs : IntT P s ks) (ht : IntT P t .u8) (hn : n = (N : Int)) : (execOp a.eval o).run P w = .ok (.value (.int .u8 (((UInt8.ofNat N).toNat : Nat) : Int))) w := by
  have e : IntKind.u8.wrap n = (((UInt8.ofNat N).toNat : Nat) : Int) := by
    subst hn
    have h2 : (UInt8.ofNat N).toNat = N % 256 := by simp
    rw [h2, IntKind.wrap_u8]; omega
  unfold execOp; rw [hop]
  simp only [evO_eval hx, convert, Sem.run_bind, run_underlying hs.is, run_underlying ht.is, Result.andThen_ok, Conv.intToInt, e]
  rfl
end
set_option maxRecDepth 100000 in
set_option maxHeartbeats 1000000 in
theorem copy_x (l : List UInt8) (v : Value) (w0 : World) (hv : BytesAt w0 v l) (hn : l.length ≤ 140737488351232) : Calls Try.prog 13 #[v] w0 fun e w' =>
    ∃ g, e = .returned (.slice (some ⟨g, 0, none⟩) l.length (l.length + 2)) ∧ w0.heap.size ≤ g ∧ blk w' g = some (.cells (bvs (l ++ [165, 90])) 5 (0, 0)) ∧ Below w0.heap.size w0 w' := by
  obtain ⟨p, c, rfl, hc, hp0, hcell⟩ := id hv
  have hS := St.start w0
  go_enter Try.func13, Try.ntmps13
  repeat' (first | ((with_reducible refine cons_list ?_); first | ((first | refine g_skip stp_list ?_ | refine g_move stp_list ?_ | refine g_assign stp_list ?_ | refine g_load1 stp_list own_st hS ?_ | refine g_loadR stp_list own_st hS ?_ | refine g_indexAddr stp_list ?_ | refine g_indexAddrA stp_list ?_ | refine g_len stp_list ?_ | refine g_cap stp_list ?_ | refine g_extract stp_list ?_ | refine g_add stp_list ?_ | refine g_sub stp_list ?_ | refine g_mul stp_list ?_ | refine g_quo stp_list ?_ | refine g_rem stp_list ?_ | refine g_cmp_t stp_list ?_ | refine g_cmp_f stp_list ?_ | refine g_cmp stp_list (fun hc => ?_) (fun hc => ?_) | refine g_neqNil stp_list ?_ | refine g_neqNil0 stp_list ?_ | refine g_eqlNil stp_list ?_ | refine g_eqlNil0 stp_list ?_ | refine g_fieldAddr stp_list ?_ | refine g_field1 stp_list ?_ | refine g_fieldR stp_list ?_ | refine g_eqlSlNil stp_list ?_ | refine g_neqSlNil stp_list ?_ | refine g_makeInterface stp_list ?_ | refine g_makeFunc stp_list ?_ | refine g_conv stp_list ?_ | refine g_pick stp_list ?_ | refine g_not stp_list ?_ | refine g_slice stp_list ?_ | refine g_sliceA stp_list ?_ | refine g_sliceNil stp_list ?_) <;> refine put_in ?_) | ((first | refine g_alloc stp_list own_st hS ?_ | refine g_box stp_list own_st hS ?_ | refine g_build0 stp_list own_st hS ?_ | refine g_build stp_list own_st hS ?_ | refine g_make stp_list own_st hS ?_); clear hS; intro b w hS; refine put_in ?_) | ((first | refine g_store1 stp_list own_st hS ?_ | refine g_storeR stp_list own_st hS ?_); clear hS; intro w hS; refine put_in ?_)) | ((fail_if_success (with_reducible refine cons_list ?_)); first | go_step | go_step3 | rw [Exit.noGoto_normal] | rw [Exit.noGoto_ret] | rw [Exit.noGoto_exit]))
  rcases p with _ | q
  · have hc0 := hp0 rfl
    have hl : l = [] := List.eq_nil_of_length_eq_zero (by omega)
    subst hl
    subst hc0
    refine Stp.go stp_list (by rfl) (by rfl) (r_appendN (by rfl) (by rfl) (by rfl) (by infer_instance) (by omega)) ?_
    refine put_in ?_
    repeat' (first | ((with_reducible refine cons_list ?_); first | ((first | refine g_skip stp_list ?_ | refine g_move stp_list ?_ | refine g_assign stp_list ?_ | refine g_load1 stp_list own_st hS ?_ | refine g_loadR stp_list own_st hS ?_ | refine g_indexAddr stp_list ?_ | refine g_indexAddrA stp_list ?_ | refine g_len stp_list ?_ | refine g_cap stp_list ?_ | refine g_extract stp_list ?_ | refine g_add stp_list ?_ | refine g_sub stp_list ?_ | refine g_mul stp_list ?_ | refine g_quo stp_list ?_ | refine g_rem stp_list ?_ | refine g_cmp_t stp_list ?_ | refine g_cmp_f stp_list ?_ | refine g_cmp stp_list (fun hc => ?_) (fun hc => ?_) | refine g_neqNil stp_list ?_ | refine g_neqNil0 stp_list ?_ | refine g_eqlNil stp_list ?_ | refine g_eqlNil0 stp_list ?_ | refine g_fieldAddr stp_list ?_ | refine g_field1 stp_list ?_ | refine g_fieldR stp_list ?_ | refine g_eqlSlNil stp_list ?_ | refine g_neqSlNil stp_list ?_ | refine g_makeInterface stp_list ?_ | refine g_makeFunc stp_list ?_ | refine g_conv stp_list ?_ | refine g_pick stp_list ?_ | refine g_not stp_list ?_ | refine g_slice stp_list ?_ | refine g_sliceA stp_list ?_ | refine g_sliceNil stp_list ?_) <;> refine put_in ?_) | ((first | refine g_alloc stp_list own_st hS ?_ | refine g_box stp_list own_st hS ?_ | refine g_build0 stp_list own_st hS ?_ | refine g_build stp_list own_st hS ?_ | refine g_make stp_list own_st hS ?_); clear hS; intro b w hS; refine put_in ?_) | ((first | refine g_store1 stp_list own_st hS ?_ | refine g_storeR stp_list own_st hS ?_); clear hS; intro w hS; refine put_in ?_)) | ((fail_if_success (with_reducible refine cons_list ?_)); first | go_step | go_step3 | rw [Exit.noGoto_normal] | rw [Exit.noGoto_ret] | rw [Exit.noGoto_exit]))
    refine s_appendR (i := 1) stp_list own_st hS (by rfl) (by rfl) (by rfl) (by rfl) (by infer_instance) (by exact at_ 1 rfl) (olds := []) (spare := (zs 2).map bv) (by rfl) (by rfl) (by simp [zs_len]) (xs := [.int .u8 165, .int .u8 90]) (src_blk (hS.blk 0 rfl) (fun j v h => by rw [Nat.zero_add]; exact h)) (by rfl) (by intro v hv; simp only [List.mem_cons, List.not_mem_nil, or_false] at hv; rcases hv with rfl | rfl <;> rfl) (by simp) rfl ?_
    clear hS
    intro w hS
    refine put_in ?_
    repeat' (first | ((with_reducible refine cons_list ?_); first | ((first | refine g_skip stp_list ?_ | refine g_move stp_list ?_ | refine g_assign stp_list ?_ | refine g_load1 stp_list own_st hS ?_ | refine g_loadR stp_list own_st hS ?_ | refine g_indexAddr stp_list ?_ | refine g_indexAddrA stp_list ?_ | refine g_len stp_list ?_ | refine g_cap stp_list ?_ | refine g_extract stp_list ?_ | refine g_add stp_list ?_ | refine g_sub stp_list ?_ | refine g_mul stp_list ?_ | refine g_quo stp_list ?_ | refine g_rem stp_list ?_ | refine g_cmp_t stp_list ?_ | refine g_cmp_f stp_list ?_ | refine g_cmp stp_list (fun hc => ?_) (fun hc => ?_) | refine g_neqNil stp_list ?_ | refine g_neqNil0 stp_list ?_ | refine g_eqlNil stp_list ?_ | refine g_eqlNil0 stp_list ?_ | refine g_fieldAddr stp_list ?_ | refine g_field1 stp_list ?_ | refine g_fieldR stp_list ?_ | refine g_eqlSlNil stp_list ?_ | refine g_neqSlNil stp_list ?_ | refine g_makeInterface stp_list ?_ | refine g_makeFunc stp_list ?_ | refine g_conv stp_list ?_ | refine g_pick stp_list ?_ | refine g_not stp_list ?_ | refine g_slice stp_list ?_ | refine g_sliceA stp_list ?_ | refine g_sliceNil stp_list ?_) <;> refine put_in ?_) | ((first | refine g_alloc stp_list own_st hS ?_ | refine g_box stp_list own_st hS ?_ | refine g_build0 stp_list own_st hS ?_ | refine g_build stp_list own_st hS ?_ | refine g_make stp_list own_st hS ?_); clear hS; intro b w hS; refine put_in ?_) | ((first | refine g_store1 stp_list own_st hS ?_ | refine g_storeR stp_list own_st hS ?_); clear hS; intro w hS; refine put_in ?_)) | ((fail_if_success (with_reducible refine cons_list ?_)); first | go_step | go_step3 | rw [Exit.noGoto_normal] | rw [Exit.noGoto_ret] | rw [Exit.noGoto_exit]))
    go_ret
    refine ⟨_, rfl, hS.low 1 rfl, ?_, hS.below⟩
    have hb := hS.blk 1 rfl
    have e3 : ([] ++ [Value.int .u8 165, Value.int .u8 90] ++ List.drop [Value.int .u8 165, Value.int .u8 90].length ((zs 2).map bv)).toArray = bvs ([] ++ [165, 90]) := by
      unfold bvs zs
      simp
      exact ⟨rfl, rfl⟩
    rw [← e3]
    exact hb
  · refine s_appendR (i := 0) stp_list own_st hS (by rfl) (by rfl) (by rfl) (by rfl) (by infer_instance) (by exact at_ 0 rfl) (olds := []) (spare := (zs (l.length + 2)).map bv) (by rfl) (by rfl) (by rw [List.length_map, zs_len]; omega) (hv.below hS.below).srcs (by rw [List.length_map, Nat.mul_one]) (bv_one l) (by omega) (by (try conv => lhs; simp only [Int.toNat_natCast, Int.toNat_zero, Int.toNat_one, Int.reduceToNat, Int.toNat_natCast_add_one, Int.ofNat_eq_natCast, Nat.mul_one, Nat.one_mul, Nat.zero_add, Nat.add_zero, Nat.sub_zero, Nat.zero_mul, Nat.reduceAdd, Nat.reduceMul, Nat.reduceSub]); first | done | rfl) ?_
    clear hS
    intro w hS
    refine put_in ?_
    have e1 : List.drop (l.map bv).length ((zs (l.length + 2)).map bv) = (zs 2).map bv := by
      rw [List.length_map, ← List.map_drop]
      congr 1
      unfold zs
      rw [List.drop_replicate, Nat.add_sub_cancel_left]
    rw [e1] at hS
    have hS : St w0 w [(b, (l.map bv ++ (zs 2).map bv).toArray, 5)] := hS
    repeat' (first | ((with_reducible refine cons_list ?_); first | ((first | refine g_skip stp_list ?_ | refine g_move stp_list ?_ | refine g_assign stp_list ?_ | refine g_load1 stp_list own_st hS ?_ | refine g_loadR stp_list own_st hS ?_ | refine g_indexAddr stp_list ?_ | refine g_indexAddrA stp_list ?_ | refine g_len stp_list ?_ | refine g_cap stp_list ?_ | refine g_extract stp_list ?_ | refine g_add stp_list ?_ | refine g_sub stp_list ?_ | refine g_mul stp_list ?_ | refine g_quo stp_list ?_ | refine g_rem stp_list ?_ | refine g_cmp_t stp_list ?_ | refine g_cmp_f stp_list ?_ | refine g_cmp stp_list (fun hc => ?_) (fun hc => ?_) | refine g_neqNil stp_list ?_ | refine g_neqNil0 stp_list ?_ | refine g_eqlNil stp_list ?_ | refine g_eqlNil0 stp_list ?_ | refine g_fieldAddr stp_list ?_ | refine g_field1 stp_list ?_ | refine g_fieldR stp_list ?_ | refine g_eqlSlNil stp_list ?_ | refine g_neqSlNil stp_list ?_ | refine g_makeInterface stp_list ?_ | refine g_makeFunc stp_list ?_ | refine g_conv stp_list ?_ | refine g_pick stp_list ?_ | refine g_not stp_list ?_ | refine g_slice stp_list ?_ | refine g_sliceA stp_list ?_ | refine g_sliceNil stp_list ?_) <;> refine put_in ?_) | ((first | refine g_alloc stp_list own_st hS ?_ | refine g_box stp_list own_st hS ?_ | refine g_build0 stp_list own_st hS ?_ | refine g_build stp_list own_st hS ?_ | refine g_make stp_list own_st hS ?_); clear hS; intro b w hS; refine put_in ?_) | ((first | refine g_store1 stp_list own_st hS ?_ | refine g_storeR stp_list own_st hS ?_); clear hS; intro w hS; refine put_in ?_)) | ((fail_if_success (with_reducible refine cons_list ?_)); first | go_step | go_step3 | rw [Exit.noGoto_normal] | rw [Exit.noGoto_ret] | rw [Exit.noGoto_exit]))
    refine s_appendR (i := 1) stp_list own_st hS (by rfl) (by rfl) (by rfl) (by rfl) (by infer_instance) (by exact at_ 1 rfl) (olds := l.map bv) (spare := (zs 2).map bv) (by rfl) (by rw [List.length_map, Nat.mul_one]) (by rw [List.length_map, zs_len]; omega) (xs := [.int .u8 165, .int .u8 90]) (src_blk (hS.blk 0 rfl) (fun j v h => by rw [Nat.zero_add]; exact h)) (by rfl) (by intro v hv; simp only [List.mem_cons, List.not_mem_nil, or_false] at hv; rcases hv with rfl | rfl <;> rfl) (by omega) rfl ?_
    clear hS
    intro w hS
    refine put_in ?_
    repeat' (first | ((with_reducible refine cons_list ?_); first | ((first | refine g_skip stp_list ?_ | refine g_move stp_list ?_ | refine g_assign stp_list ?_ | refine g_load1 stp_list own_st hS ?_ | refine g_loadR stp_list own_st hS ?_ | refine g_indexAddr stp_list ?_ | refine g_indexAddrA stp_list ?_ | refine g_len stp_list ?_ | refine g_cap stp_list ?_ | refine g_extract stp_list ?_ | refine g_add stp_list ?_ | refine g_sub stp_list ?_ | refine g_mul stp_list ?_ | refine g_quo stp_list ?_ | refine g_rem stp_list ?_ | refine g_cmp_t stp_list ?_ | refine g_cmp_f stp_list ?_ | refine g_cmp stp_list (fun hc => ?_) (fun hc => ?_) | refine g_neqNil stp_list ?_ | refine g_neqNil0 stp_list ?_ | refine g_eqlNil stp_list ?_ | refine g_eqlNil0 stp_list ?_ | refine g_fieldAddr stp_list ?_ | refine g_field1 stp_list ?_ | refine g_fieldR stp_list ?_ | refine g_eqlSlNil stp_list ?_ | refine g_neqSlNil stp_list ?_ | refine g_makeInterface stp_list ?_ | refine g_makeFunc stp_list ?_ | refine g_conv stp_list ?_ | refine g_pick stp_list ?_ | refine g_not stp_list ?_ | refine g_slice stp_list ?_ | refine g_sliceA stp_list ?_ | refine g_sliceNil stp_list ?_) <;> refine put_in ?_) | ((first | refine g_alloc stp_list own_st hS ?_ | refine g_box stp_list own_st hS ?_ | refine g_build0 stp_list own_st hS ?_ | refine g_build stp_list own_st hS ?_ | refine g_make stp_list own_st hS ?_); clear hS; intro b w hS; refine put_in ?_) | ((first | refine g_store1 stp_list own_st hS ?_ | refine g_storeR stp_list own_st hS ?_); clear hS; intro w hS; refine put_in ?_)) | ((fail_if_success (with_reducible refine cons_list ?_)); first | go_step | go_step3 | rw [Exit.noGoto_normal] | rw [Exit.noGoto_ret] | rw [Exit.noGoto_exit]))
    go_ret
    refine ⟨_, rfl, hS.low 1 rfl, ?_, hS.below⟩
    have hb := hS.blk 1 rfl
    have e3 : (l.map bv ++ [Value.int .u8 165, Value.int .u8 90] ++ List.drop [Value.int .u8 165, Value.int .u8 90].length ((zs 2).map bv)).toArray = bvs (l ++ [165, 90]) := by
      unfold bvs zs
      simp
      exact ⟨rfl, rfl⟩
    rw [← e3]
    exact hb
/-- The bytes of a pattern. -/
def pb (k j : Nat) : UInt8 := UInt8.ofNat (29 * k + 5 * j + 3)
theorem r_convP {P : Program} {o : Oper} {a : Act} {w : World} {s t : TypeId} {x : Operand} {k ks : IntKind} {n : Int} (K J : Nat) (hop : o.op = .convert s t x) (hx : evO a x = some (.int k n)) (hs : IntT P s ks) (ht : IntT P t .u8) (hn : n = ((29 * K + 5 * J + 3 : Nat) : Int)) : (execOp a.eval o).run P w = .ok (.value (.int .u8 (((pb K J).toNat : Nat) : Int))) w := r_convB _ hop hx hs ht hn
def pat (k n : Nat) : List UInt8 := (List.range n).map (pb k)
theorem pat_len (k n : Nat) : (pat k n).length = n := by simp [pat]
theorem pat_zero (k : Nat) : pat k 0 = [] := rfl
theorem pat_succ (k n : Nat) : pat k (n + 1) = pat k n ++ [pb k n] := by simp [pat, List.range_succ]
theorem pat_get (k n j : Nat) (h : j < n) : (pat k n).getD j 0 = pb k j := by
  rw [List.getD_eq_getElem?_getD, List.getElem?_eq_getElem (by rw [pat_len]; exact h)]
  simp [pat]
theorem pat_mark (k j : Nat) (d : Value) (D : List Value) : ((pat k j).map bv ++ d :: D).set j (.int .u8 (((pb k j).toNat : Nat) : Int)) = (pat k (j + 1)).map bv ++ D := by
  rw [pat_succ, List.map_append, List.set_append_right _ _ (by rw [List.length_map, pat_len]; omega), List.length_map, pat_len, Nat.sub_self, List.set_cons_zero, List.append_assoc]
  rfl
def slLen : Value → Nat
  | .slice _ n _ => n
  | _ => 0
attribute [irreducible] pat pb
end Go.Proofs.Ytkfggilildiflaa

namespace Go.Proofs.Ytkfggilildiflaa
open Go.RowKit
attribute [local irreducible] wpList wpListIn
/-- Of a struct type: where its fields lie and how many cells they have, and its noughts. -/
def stT (P : Program) (t : TypeId) : Option (List (Nat × Nat) × Array Value) := match P.info? t, P.underlying t with
  | some it, some (.struct fields) => (match it.zero, fields.toList.mapM (fun f => (P.info? f.type).map fun i => (f.offset, i.size)) with
    | some z, some places => some (places, z.cells)
    | _, _ => none)
  | _, _ => none
class StT (P : Program) (t : TypeId) (pl : outParam (List (Nat × Nat))) (z : outParam (List Value)) : Prop where
  is : stT P t = some (pl, z.toArray)
/-- Of an array type: how many cells its elements have, and its noughts. -/
def atT (P : Program) (t : TypeId) : Option (Nat × Array Value) := match P.info? t, P.underlying t with
  | some it, some (.array _ e) => (match it.zero, P.info? e with
    | some z, some ie => some (ie.size, z.cells)
    | _, _ => none)
  | _, _ => none
class AtT (P : Program) (t : TypeId) (n : outParam Nat) (z : outParam (List Value)) : Prop where
  is : atT P t = some (n, z.toArray)
def evp (a : Act) : List (Nat × Operand) → Option (List (Nat × Value))
  | [] => some []
  | (i, x) :: l => match evO a x, evp a l with
    | some v, some vs => some ((i, v) :: vs)
    | _, _ => none
theorem evp_eval {a : Act} : ∀ {l : List (Nat × Operand)} {vs : List (Nat × Value)}, evp a l = some vs → l.map (fun y => (y.1, a.eval y.2)) = vs
  | [], vs, h => by simp only [evp, Option.some.injEq] at h; exact h
  | (i, x) :: l, vs, h => by
    simp only [evp] at h
    split at h
    · rename_i v vs' h1 h2
      simp only [Option.some.injEq] at h
      subst h
      simp only [List.map_cons, evO_eval h1, evp_eval h2]
    · cases h
section
variable {P : Program} {ops : Array Oper} {W : List Oper → Act → World → Prop} {o : Oper} {rest : List Oper} {a : Act} {w : World} {v : Value} {C : World → Prop} {B : Nat} {H : World → List Blk → Prop} {L : List Blk}
theorem built_st {t : TypeId} {pl : List (Nat × Nat)} {z : List Value} (hT : StT P t pl z) {vs : List (Nat × Value)} {cs : Array Value} (hc : Instr.fill (pl.toArray[·]?) z.toArray vs = some cs) : P.built t vs = some cs := by
  have h := hT.is
  unfold stT at h
  unfold Program.built
  split at h
  · next it fields h1 h2 =>
    split at h
    · next zz places h3 h4 =>
      simp only [Option.some.injEq, Prod.mk.injEq] at h
      obtain ⟨rfl, h5⟩ := h
      simp only [h1, h2, h3, h4, h5]
      exact hc
    · cases h
  · cases h
theorem built_at {t : TypeId} {n : Nat} {z : List Value} (hT : AtT P t n z) {vs : List (Nat × Value)} {cs : Array Value} (hc : Instr.fill (fun i => some (i * n, n)) z.toArray vs = some cs) : P.built t vs = some cs := by
  have h := hT.is
  unfold atT at h
  unfold Program.built
  split at h
  · next it m e h1 h2 =>
    split at h
    · next zz ie h3 h4 =>
      simp only [Option.some.injEq, Prod.mk.injEq] at h
      obtain ⟨rfl, h5⟩ := h
      simp only [h1, h2, h3, h4, h5]
      exact hc
    · cases h
  · cases h
/-- What a literal's cells are, part by part. -/
inductive FillS (place : Nat → Option (Nat × Nat)) : List Value → List (Nat × Value) → List Value → Prop
  | nil {z : List Value} : FillS place z [] z
  | one {z z' cs : List Value} {i off : Nat} {v : Value} {r : List (Nat × Value)} (hp : place i = some (off, 1)) (hv : v.oneCell' = true) (ho : off < z.length) (hz : z.set off v = z') (hr : FillS place z' r cs) : FillS place z ((i, v) :: r) cs
  | row {z z' cs : List Value} {i off n : Nat} {vs : Array Value} {r : List (Nat × Value)} (hp : place i = some (off, n)) (hv : csz vs = n) (ho : off + n ≤ z.length) (hz : z.take off ++ vs.toList ++ z.drop (off + n) = z') (hr : FillS place z' r cs) : FillS place z ((i, .agg vs) :: r) cs
theorem fold_paste (vs : List Value) : ∀ (off k : Nat) (z : List Value), off + k + vs.length ≤ z.length → (vs.zipIdx k).foldl (fun (cs : Array Value) (x : Value × Nat) => cs.setIfInBounds (off + x.2) x.1) z.toArray = (z.take (off + k) ++ vs ++ z.drop (off + k + vs.length)).toArray := by
  induction vs with
  | nil => intro off k z h; simp
  | cons v vs ih =>
    intro off k z h
    simp only [List.length_cons] at h
    rw [List.zipIdx_cons, List.foldl_cons]
    simp only [List.setIfInBounds_toArray]
    rw [ih off (k + 1) _ (by simp; omega)]
    congr 1
    rw [show off + (k + 1) = off + k + 1 by omega, List.take_set, List.drop_set, if_pos (by omega), List.length_cons, show off + k + 1 + vs.length = off + k + (vs.length + 1) by omega]
    congr 1
    apply List.ext_getElem?
    intro j
    simp only [List.getElem?_append, List.length_set, List.length_take, List.getElem?_set, List.getElem?_take, List.length_cons]
    by_cases h1 : j < off + k
    · simp [h1, show j < min (off + k + 1) z.length by omega, show j < min (off + k) z.length by omega, show off + k ≠ j by omega, show j < off + k + 1 by omega]
    · by_cases h2 : j = off + k
      · subst h2
        simp [show off + k < min (off + k + 1) z.length by omega, show ¬ off + k < min (off + k) z.length by omega, show min (off + k) z.length = off + k by omega]
      · simp [show ¬ j < min (off + k + 1) z.length by omega, show ¬ j < min (off + k) z.length by omega, show min (off + k) z.length = off + k by omega, show min (off + k + 1) z.length = off + k + 1 by omega]
        rw [show j - (off + k) = (j - (off + k + 1)) + 1 by omega, List.getElem?_cons_succ, if_neg (by omega), if_neg (by omega)]
theorem fill_of {place : Nat → Option (Nat × Nat)} {z cs : List Value} {vs : List (Nat × Value)} (h : FillS place z vs cs) : Instr.fill place z.toArray vs = some cs.toArray := by
  induction h with
  | nil => rfl
  | @one z z' cs i off v r hp hv ho hz hr ih =>
    unfold Instr.fill
    rw [hp]
    have hc : v.cells = #[v] := by cases v <;> first | rfl | (simp [Value.oneCell'] at hv)
    simp only [hc]
    rw [if_neg (by simp; omega)]
    subst hz
    rw [← ih]
    congr 1
    simp
  | @row z z' cs i off n ws r hp hv ho hz hr ih =>
    unfold Instr.fill
    rw [hp]
    have hc : (Value.agg ws).cells = ws := rfl
    have hs : ws.size = n := hv
    simp only [hc]
    rw [if_neg (by simp [hs]; omega)]
    subst hz
    rw [← ih]
    congr 1
    have := fold_paste ws.toList off 0 z (by simp [hs]; exact ho)
    rw [← Array.foldl_toList, Array.toList_zipIdx]
    simp only [Nat.add_zero, Array.length_toList, hs] at this ⊢
    exact this
theorem r_built {t : TypeId} {parts : Array (Nat × Operand)} {vs : List (Nat × Value)} {cs : Array Value} (hop : o.op = .build t parts) (hp : evp a parts.toList = some vs) (hb : P.built t vs = some cs) : (execOp a.eval o).run P w = .ok (.value (.agg cs)) w := by
  unfold execOp; rw [hop]
  have e1 : (parts.map fun (i, x) => (i, a.eval x)).toList = vs := by
    rw [Array.toList_map]; exact evp_eval hp
  have hr := Go.run_build (P := P) w t (parts.map fun (i, x) => (i, a.eval x)) cs (by rw [e1]; exact hb)
  simp only [Sem.run_bind, hr, Result.andThen_ok]
  rfl
theorem g_builtS {t : TypeId} {parts : Array (Nat × Operand)} {vs : List (Nat × Value)} {cs : List Value} {pl : List (Nat × Nat)} {z : List Value} (hStp : Stp P ops W) (hk : W rest (a.put o.dst (.agg cs.toArray)) w) (hop : o.op = .build t parts := by rfl) (hp : evp a parts.toList = some vs := by rfl) (hT : StT P t pl z := by infer_instance) (hc : FillS (pl.toArray[·]?) z vs cs := by first | exact FillS.nil | exact FillS.one (by rfl) (by rfl) (by (try simp only [List.length_append, List.length_set, List.length_cons, List.length_nil]); first | done | decide | omega) (by (try conv => lhs; simp only [List.set_cons_zero, List.set_cons_succ]); first | done | rfl) FillS.nil | exact FillS.one (by rfl) (by rfl) (by (try simp only [List.length_append, List.length_set, List.length_cons, List.length_nil]); first | done | decide | omega) (by (try conv => lhs; simp only [List.set_cons_zero, List.set_cons_succ]); first | done | rfl) (FillS.one (by rfl) (by rfl) (by (try simp only [List.length_append, List.length_set, List.length_cons, List.length_nil]); first | done | decide | omega) (by (try conv => lhs; simp only [List.set_cons_zero, List.set_cons_succ]); first | done | rfl) FillS.nil) | exact FillS.one (by rfl) (by rfl) (by (try simp only [List.length_append, List.length_set, List.length_cons, List.length_nil]); first | done | decide | omega) (by (try conv => lhs; simp only [List.set_cons_zero, List.set_cons_succ]); first | done | rfl) (FillS.one (by rfl) (by rfl) (by (try simp only [List.length_append, List.length_set, List.length_cons, List.length_nil]); first | done | decide | omega) (by (try conv => lhs; simp only [List.set_cons_zero, List.set_cons_succ]); first | done | rfl) (FillS.one (by rfl) (by rfl) (by (try simp only [List.length_append, List.length_set, List.length_cons, List.length_nil]); first | done | decide | omega) (by (try conv => lhs; simp only [List.set_cons_zero, List.set_cons_succ]); first | done | rfl) FillS.nil)) | exact FillS.one (by rfl) (by rfl) (by (try simp only [List.length_append, List.length_set, List.length_cons, List.length_nil]); first | done | decide | omega) (by (try conv => lhs; simp only [List.set_cons_zero, List.set_cons_succ]); first | done | rfl) (FillS.one (by rfl) (by rfl) (by (try simp only [List.length_append, List.length_set, List.length_cons, List.length_nil]); first | done | decide | omega) (by (try conv => lhs; simp only [List.set_cons_zero, List.set_cons_succ]); first | done | rfl) (FillS.one (by rfl) (by rfl) (by (try simp only [List.length_append, List.length_set, List.length_cons, List.length_nil]); first | done | decide | omega) (by (try conv => lhs; simp only [List.set_cons_zero, List.set_cons_succ]); first | done | rfl) (FillS.one (by rfl) (by rfl) (by (try simp only [List.length_append, List.length_set, List.length_cons, List.length_nil]); first | done | decide | omega) (by (try conv => lhs; simp only [List.set_cons_zero, List.set_cons_succ]); first | done | rfl) FillS.nil))) | exact FillS.one (by rfl) (by rfl) (by (try simp only [List.length_append, List.length_set, List.length_cons, List.length_nil]); first | done | decide | omega) (by (try conv => lhs; simp only [List.set_cons_zero, List.set_cons_succ]); first | done | rfl) (FillS.one (by rfl) (by rfl) (by (try simp only [List.length_append, List.length_set, List.length_cons, List.length_nil]); first | done | decide | omega) (by (try conv => lhs; simp only [List.set_cons_zero, List.set_cons_succ]); first | done | rfl) (FillS.one (by rfl) (by rfl) (by (try simp only [List.length_append, List.length_set, List.length_cons, List.length_nil]); first | done | decide | omega) (by (try conv => lhs; simp only [List.set_cons_zero, List.set_cons_succ]); first | done | rfl) (FillS.one (by rfl) (by rfl) (by (try simp only [List.length_append, List.length_set, List.length_cons, List.length_nil]); first | done | decide | omega) (by (try conv => lhs; simp only [List.set_cons_zero, List.set_cons_succ]); first | done | rfl) (FillS.one (by rfl) (by rfl) (by (try simp only [List.length_append, List.length_set, List.length_cons, List.length_nil]); first | done | decide | omega) (by (try conv => lhs; simp only [List.set_cons_zero, List.set_cons_succ]); first | done | rfl) FillS.nil)))) | exact FillS.one (by rfl) (by rfl) (by (try simp only [List.length_append, List.length_set, List.length_cons, List.length_nil]); first | done | decide | omega) (by (try conv => lhs; simp only [List.set_cons_zero, List.set_cons_succ]); first | done | rfl) (FillS.one (by rfl) (by rfl) (by (try simp only [List.length_append, List.length_set, List.length_cons, List.length_nil]); first | done | decide | omega) (by (try conv => lhs; simp only [List.set_cons_zero, List.set_cons_succ]); first | done | rfl) (FillS.one (by rfl) (by rfl) (by (try simp only [List.length_append, List.length_set, List.length_cons, List.length_nil]); first | done | decide | omega) (by (try conv => lhs; simp only [List.set_cons_zero, List.set_cons_succ]); first | done | rfl) (FillS.one (by rfl) (by rfl) (by (try simp only [List.length_append, List.length_set, List.length_cons, List.length_nil]); first | done | decide | omega) (by (try conv => lhs; simp only [List.set_cons_zero, List.set_cons_succ]); first | done | rfl) (FillS.one (by rfl) (by rfl) (by (try simp only [List.length_append, List.length_set, List.length_cons, List.length_nil]); first | done | decide | omega) (by (try conv => lhs; simp only [List.set_cons_zero, List.set_cons_succ]); first | done | rfl) (FillS.one (by rfl) (by rfl) (by (try simp only [List.length_append, List.length_set, List.length_cons, List.length_nil]); first | done | decide | omega) (by (try conv => lhs; simp only [List.set_cons_zero, List.set_cons_succ]); first | done | rfl) FillS.nil)))))) (hw : Region.wanted o (yielded ops a.tmps) = true := by rfl) (hd : isDefer o = false := by rfl) : W (o :: rest) a w := hStp.go hw hd (r_built hop hp (built_st hT (fill_of hc))) hk
theorem g_builtA {t : TypeId} {parts : Array (Nat × Operand)} {vs : List (Nat × Value)} {cs : List Value} {n : Nat} {z : List Value} (hStp : Stp P ops W) (hk : W rest (a.put o.dst (.agg cs.toArray)) w) (hop : o.op = .build t parts := by rfl) (hp : evp a parts.toList = some vs := by rfl) (hT : AtT P t n z := by infer_instance) (hc : FillS (fun i => some (i * n, n)) z vs cs := by first | exact FillS.nil | exact FillS.one (by rfl) (by rfl) (by (try simp only [List.length_append, List.length_set, List.length_cons, List.length_nil]); first | done | decide | omega) (by (try conv => lhs; simp only [List.set_cons_zero, List.set_cons_succ]); first | done | rfl) FillS.nil | exact FillS.one (by rfl) (by rfl) (by (try simp only [List.length_append, List.length_set, List.length_cons, List.length_nil]); first | done | decide | omega) (by (try conv => lhs; simp only [List.set_cons_zero, List.set_cons_succ]); first | done | rfl) (FillS.one (by rfl) (by rfl) (by (try simp only [List.length_append, List.length_set, List.length_cons, List.length_nil]); first | done | decide | omega) (by (try conv => lhs; simp only [List.set_cons_zero, List.set_cons_succ]); first | done | rfl) FillS.nil) | exact FillS.one (by rfl) (by rfl) (by (try simp only [List.length_append, List.length_set, List.length_cons, List.length_nil]); first | done | decide | omega) (by (try conv => lhs; simp only [List.set_cons_zero, List.set_cons_succ]); first | done | rfl) (FillS.one (by rfl) (by rfl) (by (try simp only [List.length_append, List.length_set, List.length_cons, List.length_nil]); first | done | decide | omega) (by (try conv => lhs; simp only [List.set_cons_zero, List.set_cons_succ]); first | done | rfl) (FillS.one (by rfl) (by rfl) (by (try simp only [List.length_append, List.length_set, List.length_cons, List.length_nil]); first | done | decide | omega) (by (try conv => lhs; simp only [List.set_cons_zero, List.set_cons_succ]); first | done | rfl) FillS.nil)) | exact FillS.one (by rfl) (by rfl) (by (try simp only [List.length_append, List.length_set, List.length_cons, List.length_nil]); first | done | decide | omega) (by (try conv => lhs; simp only [List.set_cons_zero, List.set_cons_succ]); first | done | rfl) (FillS.one (by rfl) (by rfl) (by (try simp only [List.length_append, List.length_set, List.length_cons, List.length_nil]); first | done | decide | omega) (by (try conv => lhs; simp only [List.set_cons_zero, List.set_cons_succ]); first | done | rfl) (FillS.one (by rfl) (by rfl) (by (try simp only [List.length_append, List.length_set, List.length_cons, List.length_nil]); first | done | decide | omega) (by (try conv => lhs; simp only [List.set_cons_zero, List.set_cons_succ]); first | done | rfl) (FillS.one (by rfl) (by rfl) (by (try simp only [List.length_append, List.length_set, List.length_cons, List.length_nil]); first | done | decide | omega) (by (try conv => lhs; simp only [List.set_cons_zero, List.set_cons_succ]); first | done | rfl) FillS.nil))) | exact FillS.one (by rfl) (by rfl) (by (try simp only [List.length_append, List.length_set, List.length_cons, List.length_nil]); first | done | decide | omega) (by (try conv => lhs; simp only [List.set_cons_zero, List.set_cons_succ]); first | done | rfl) (FillS.one (by rfl) (by rfl) (by (try simp only [List.length_append, List.length_set, List.length_cons, List.length_nil]); first | done | decide | omega) (by (try conv => lhs; simp only [List.set_cons_zero, List.set_cons_succ]); first | done | rfl) (FillS.one (by rfl) (by rfl) (by (try simp only [List.length_append, List.length_set, List.length_cons, List.length_nil]); first | done | decide | omega) (by (try conv => lhs; simp only [List.set_cons_zero, List.set_cons_succ]); first | done | rfl) (FillS.one (by rfl) (by rfl) (by (try simp only [List.length_append, List.length_set, List.length_cons, List.length_nil]); first | done | decide | omega) (by (try conv => lhs; simp only [List.set_cons_zero, List.set_cons_succ]); first | done | rfl) (FillS.one (by rfl) (by rfl) (by (try simp only [List.length_append, List.length_set, List.length_cons, List.length_nil]); first | done | decide | omega) (by (try conv => lhs; simp only [List.set_cons_zero, List.set_cons_succ]); first | done | rfl) FillS.nil)))) | exact FillS.one (by rfl) (by rfl) (by (try simp only [List.length_append, List.length_set, List.length_cons, List.length_nil]); first | done | decide | omega) (by (try conv => lhs; simp only [List.set_cons_zero, List.set_cons_succ]); first | done | rfl) (FillS.one (by rfl) (by rfl) (by (try simp only [List.length_append, List.length_set, List.length_cons, List.length_nil]); first | done | decide | omega) (by (try conv => lhs; simp only [List.set_cons_zero, List.set_cons_succ]); first | done | rfl) (FillS.one (by rfl) (by rfl) (by (try simp only [List.length_append, List.length_set, List.length_cons, List.length_nil]); first | done | decide | omega) (by (try conv => lhs; simp only [List.set_cons_zero, List.set_cons_succ]); first | done | rfl) (FillS.one (by rfl) (by rfl) (by (try simp only [List.length_append, List.length_set, List.length_cons, List.length_nil]); first | done | decide | omega) (by (try conv => lhs; simp only [List.set_cons_zero, List.set_cons_succ]); first | done | rfl) (FillS.one (by rfl) (by rfl) (by (try simp only [List.length_append, List.length_set, List.length_cons, List.length_nil]); first | done | decide | omega) (by (try conv => lhs; simp only [List.set_cons_zero, List.set_cons_succ]); first | done | rfl) (FillS.one (by rfl) (by rfl) (by (try simp only [List.length_append, List.length_set, List.length_cons, List.length_nil]); first | done | decide | omega) (by (try conv => lhs; simp only [List.set_cons_zero, List.set_cons_succ]); first | done | rfl) FillS.nil)))))) (hw : Region.wanted o (yielded ops a.tmps) = true := by rfl) (hd : isDefer o = false := by rfl) : W (o :: rest) a w := hStp.go hw hd (r_built hop hp (built_at hT (fill_of hc))) hk
theorem q_builtS {t : TypeId} {parts : Array (Nat × Operand)} {vs : List (Nat × Value)} {cs : List Value} {pl : List (Nat × Nat)} {z : List Value} (hop : o.op = .build t parts := by rfl) (hp : evp a parts.toList = some vs := by rfl) (hT : StT P t pl z := by infer_instance) (hc : FillS (pl.toArray[·]?) z vs cs := by first | exact FillS.nil | exact FillS.one (by rfl) (by rfl) (by (try simp only [List.length_append, List.length_set, List.length_cons, List.length_nil]); first | done | decide | omega) (by (try conv => lhs; simp only [List.set_cons_zero, List.set_cons_succ]); first | done | rfl) FillS.nil | exact FillS.one (by rfl) (by rfl) (by (try simp only [List.length_append, List.length_set, List.length_cons, List.length_nil]); first | done | decide | omega) (by (try conv => lhs; simp only [List.set_cons_zero, List.set_cons_succ]); first | done | rfl) (FillS.one (by rfl) (by rfl) (by (try simp only [List.length_append, List.length_set, List.length_cons, List.length_nil]); first | done | decide | omega) (by (try conv => lhs; simp only [List.set_cons_zero, List.set_cons_succ]); first | done | rfl) FillS.nil) | exact FillS.one (by rfl) (by rfl) (by (try simp only [List.length_append, List.length_set, List.length_cons, List.length_nil]); first | done | decide | omega) (by (try conv => lhs; simp only [List.set_cons_zero, List.set_cons_succ]); first | done | rfl) (FillS.one (by rfl) (by rfl) (by (try simp only [List.length_append, List.length_set, List.length_cons, List.length_nil]); first | done | decide | omega) (by (try conv => lhs; simp only [List.set_cons_zero, List.set_cons_succ]); first | done | rfl) (FillS.one (by rfl) (by rfl) (by (try simp only [List.length_append, List.length_set, List.length_cons, List.length_nil]); first | done | decide | omega) (by (try conv => lhs; simp only [List.set_cons_zero, List.set_cons_succ]); first | done | rfl) FillS.nil)) | exact FillS.one (by rfl) (by rfl) (by (try simp only [List.length_append, List.length_set, List.length_cons, List.length_nil]); first | done | decide | omega) (by (try conv => lhs; simp only [List.set_cons_zero, List.set_cons_succ]); first | done | rfl) (FillS.one (by rfl) (by rfl) (by (try simp only [List.length_append, List.length_set, List.length_cons, List.length_nil]); first | done | decide | omega) (by (try conv => lhs; simp only [List.set_cons_zero, List.set_cons_succ]); first | done | rfl) (FillS.one (by rfl) (by rfl) (by (try simp only [List.length_append, List.length_set, List.length_cons, List.length_nil]); first | done | decide | omega) (by (try conv => lhs; simp only [List.set_cons_zero, List.set_cons_succ]); first | done | rfl) (FillS.one (by rfl) (by rfl) (by (try simp only [List.length_append, List.length_set, List.length_cons, List.length_nil]); first | done | decide | omega) (by (try conv => lhs; simp only [List.set_cons_zero, List.set_cons_succ]); first | done | rfl) FillS.nil))) | exact FillS.one (by rfl) (by rfl) (by (try simp only [List.length_append, List.length_set, List.length_cons, List.length_nil]); first | done | decide | omega) (by (try conv => lhs; simp only [List.set_cons_zero, List.set_cons_succ]); first | done | rfl) (FillS.one (by rfl) (by rfl) (by (try simp only [List.length_append, List.length_set, List.length_cons, List.length_nil]); first | done | decide | omega) (by (try conv => lhs; simp only [List.set_cons_zero, List.set_cons_succ]); first | done | rfl) (FillS.one (by rfl) (by rfl) (by (try simp only [List.length_append, List.length_set, List.length_cons, List.length_nil]); first | done | decide | omega) (by (try conv => lhs; simp only [List.set_cons_zero, List.set_cons_succ]); first | done | rfl) (FillS.one (by rfl) (by rfl) (by (try simp only [List.length_append, List.length_set, List.length_cons, List.length_nil]); first | done | decide | omega) (by (try conv => lhs; simp only [List.set_cons_zero, List.set_cons_succ]); first | done | rfl) (FillS.one (by rfl) (by rfl) (by (try simp only [List.length_append, List.length_set, List.length_cons, List.length_nil]); first | done | decide | omega) (by (try conv => lhs; simp only [List.set_cons_zero, List.set_cons_succ]); first | done | rfl) FillS.nil)))) | exact FillS.one (by rfl) (by rfl) (by (try simp only [List.length_append, List.length_set, List.length_cons, List.length_nil]); first | done | decide | omega) (by (try conv => lhs; simp only [List.set_cons_zero, List.set_cons_succ]); first | done | rfl) (FillS.one (by rfl) (by rfl) (by (try simp only [List.length_append, List.length_set, List.length_cons, List.length_nil]); first | done | decide | omega) (by (try conv => lhs; simp only [List.set_cons_zero, List.set_cons_succ]); first | done | rfl) (FillS.one (by rfl) (by rfl) (by (try simp only [List.length_append, List.length_set, List.length_cons, List.length_nil]); first | done | decide | omega) (by (try conv => lhs; simp only [List.set_cons_zero, List.set_cons_succ]); first | done | rfl) (FillS.one (by rfl) (by rfl) (by (try simp only [List.length_append, List.length_set, List.length_cons, List.length_nil]); first | done | decide | omega) (by (try conv => lhs; simp only [List.set_cons_zero, List.set_cons_succ]); first | done | rfl) (FillS.one (by rfl) (by rfl) (by (try simp only [List.length_append, List.length_set, List.length_cons, List.length_nil]); first | done | decide | omega) (by (try conv => lhs; simp only [List.set_cons_zero, List.set_cons_succ]); first | done | rfl) (FillS.one (by rfl) (by rfl) (by (try simp only [List.length_append, List.length_set, List.length_cons, List.length_nil]); first | done | decide | omega) (by (try conv => lhs; simp only [List.set_cons_zero, List.set_cons_succ]); first | done | rfl) FillS.nil)))))) : o.quietAt P a C w (.agg cs.toArray) := q_val (r_built hop hp (built_st hT (fill_of hc)))
theorem q_builtA {t : TypeId} {parts : Array (Nat × Operand)} {vs : List (Nat × Value)} {cs : List Value} {n : Nat} {z : List Value} (hop : o.op = .build t parts := by rfl) (hp : evp a parts.toList = some vs := by rfl) (hT : AtT P t n z := by infer_instance) (hc : FillS (fun i => some (i * n, n)) z vs cs := by first | exact FillS.nil | exact FillS.one (by rfl) (by rfl) (by (try simp only [List.length_append, List.length_set, List.length_cons, List.length_nil]); first | done | decide | omega) (by (try conv => lhs; simp only [List.set_cons_zero, List.set_cons_succ]); first | done | rfl) FillS.nil | exact FillS.one (by rfl) (by rfl) (by (try simp only [List.length_append, List.length_set, List.length_cons, List.length_nil]); first | done | decide | omega) (by (try conv => lhs; simp only [List.set_cons_zero, List.set_cons_succ]); first | done | rfl) (FillS.one (by rfl) (by rfl) (by (try simp only [List.length_append, List.length_set, List.length_cons, List.length_nil]); first | done | decide | omega) (by (try conv => lhs; simp only [List.set_cons_zero, List.set_cons_succ]); first | done | rfl) FillS.nil) | exact FillS.one (by rfl) (by rfl) (by (try simp only [List.length_append, List.length_set, List.length_cons, List.length_nil]); first | done | decide | omega) (by (try conv => lhs; simp only [List.set_cons_zero, List.set_cons_succ]); first | done | rfl) (FillS.one (by rfl) (by rfl) (by (try simp only [List.length_append, List.length_set, List.length_cons, List.length_nil]); first | done | decide | omega) (by (try conv => lhs; simp only [List.set_cons_zero, List.set_cons_succ]); first | done | rfl) (FillS.one (by rfl) (by rfl) (by (try simp only [List.length_append, List.length_set, List.length_cons, List.length_nil]); first | done | decide | omega) (by (try conv => lhs; simp only [List.set_cons_zero, List.set_cons_succ]); first | done | rfl) FillS.nil)) | exact FillS.one (by rfl) (by rfl) (by (try simp only [List.length_append, List.length_set, List.length_cons, List.length_nil]); first | done | decide | omega) (by (try conv => lhs; simp only [List.set_cons_zero, List.set_cons_succ]); first | done | rfl) (FillS.one (by rfl) (by rfl) (by (try simp only [List.length_append, List.length_set, List.length_cons, List.length_nil]); first | done | decide | omega) (by (try conv => lhs; simp only [List.set_cons_zero, List.set_cons_succ]); first | done | rfl) (FillS.one (by rfl) (by rfl) (by (try simp only [List.length_append, List.length_set, List.length_cons, List.length_nil]); first | done | decide | omega) (by (try conv => lhs; simp only [List.set_cons_zero, List.set_cons_succ]); first | done | rfl) (FillS.one (by rfl) (by rfl) (by (try simp only [List.length_append, List.length_set, List.length_cons, List.length_nil]); first | done | decide | omega) (by (try conv => lhs; simp only [List.set_cons_zero, List.set_cons_succ]); first | done | rfl) FillS.nil))) | exact FillS.one (by rfl) (by rfl) (by (try simp only [List.length_append, List.length_set, List.length_cons, List.length_nil]); first | done | decide | omega) (by (try conv => lhs; simp only [List.set_cons_zero, List.set_cons_succ]); first | done | rfl) (FillS.one (by rfl) (by rfl) (by (try simp only [List.length_append, List.length_set, List.length_cons, List.length_nil]); first | done | decide | omega) (by (try conv => lhs; simp only [List.set_cons_zero, List.set_cons_succ]); first | done | rfl) (FillS.one (by rfl) (by rfl) (by (try simp only [List.length_append, List.length_set, List.length_cons, List.length_nil]); first | done | decide | omega) (by (try conv => lhs; simp only [List.set_cons_zero, List.set_cons_succ]); first | done | rfl) (FillS.one (by rfl) (by rfl) (by (try simp only [List.length_append, List.length_set, List.length_cons, List.length_nil]); first | done | decide | omega) (by (try conv => lhs; simp only [List.set_cons_zero, List.set_cons_succ]); first | done | rfl) (FillS.one (by rfl) (by rfl) (by (try simp only [List.length_append, List.length_set, List.length_cons, List.length_nil]); first | done | decide | omega) (by (try conv => lhs; simp only [List.set_cons_zero, List.set_cons_succ]); first | done | rfl) FillS.nil)))) | exact FillS.one (by rfl) (by rfl) (by (try simp only [List.length_append, List.length_set, List.length_cons, List.length_nil]); first | done | decide | omega) (by (try conv => lhs; simp only [List.set_cons_zero, List.set_cons_succ]); first | done | rfl) (FillS.one (by rfl) (by rfl) (by (try simp only [List.length_append, List.length_set, List.length_cons, List.length_nil]); first | done | decide | omega) (by (try conv => lhs; simp only [List.set_cons_zero, List.set_cons_succ]); first | done | rfl) (FillS.one (by rfl) (by rfl) (by (try simp only [List.length_append, List.length_set, List.length_cons, List.length_nil]); first | done | decide | omega) (by (try conv => lhs; simp only [List.set_cons_zero, List.set_cons_succ]); first | done | rfl) (FillS.one (by rfl) (by rfl) (by (try simp only [List.length_append, List.length_set, List.length_cons, List.length_nil]); first | done | decide | omega) (by (try conv => lhs; simp only [List.set_cons_zero, List.set_cons_succ]); first | done | rfl) (FillS.one (by rfl) (by rfl) (by (try simp only [List.length_append, List.length_set, List.length_cons, List.length_nil]); first | done | decide | omega) (by (try conv => lhs; simp only [List.set_cons_zero, List.set_cons_succ]); first | done | rfl) (FillS.one (by rfl) (by rfl) (by (try simp only [List.length_append, List.length_set, List.length_cons, List.length_nil]); first | done | decide | omega) (by (try conv => lhs; simp only [List.set_cons_zero, List.set_cons_succ]); first | done | rfl) FillS.nil)))))) : o.quietAt P a C w (.agg cs.toArray) := q_val (r_built hop hp (built_at hT (fill_of hc)))
theorem ones_lit {l : List Value} (h : l.all Value.oneCell' = true) : ones l.toArray = true := by
  unfold ones
  simpa using h
theorem g_storeRO {t : TypeId} {x y : Operand} {n b off : Nat} {cs vs cs' : Array Value} {ty : TypeId} {L' : List Blk} {i : Nat} (hStp : Stp P ops W) (hH : Own B H) (hS : H w L) (hk : ∀ w', H w' L' → W rest (a.put o.dst undef) w') (hop : o.op = .store t x y := by rfl) (hx : evO a x = some (.pointer (some ⟨b, off, none⟩)) := by rfl) (hy : evO a y = some (.agg vs) := by rfl) (h1 : RowT P t n := by infer_instance) (hn : csz vs = n := by (try simp only [csz_setc, csz_bvs, csz_list, List.length_append, List.length_set, zs_len, List.length_take, List.length_drop, List.length_cons, List.length_nil, List.length_map]); first | done | rfl | omega) (hv : ones vs = true := by exact ones_lit (by rfl)) (hi : L[i]? = some (b, cs, ty) := by first | exact at_ 0 rfl | exact at_ 1 rfl | exact at_ 2 rfl | exact at_ 3 rfl | exact at_ 4 rfl | exact at_ 5 rfl | exact at_ 6 rfl | exact at_ 7 rfl | exact at_ 8 rfl | exact at_ 9 rfl | exact at_ 10 rfl | exact at_ 11 rfl | exact at_ 12 rfl | exact at_ 13 rfl) (ho : off + n ≤ csz cs := by (try simp only [csz_setc, csz_bvs, csz_list, List.length_append, List.length_set, zs_len, List.length_take, List.length_drop, List.length_cons, List.length_nil, List.length_map]); first | done | rfl | omega) (hc : paste cs off vs = cs' := by first | exact paste_whole _ _ (by (try simp only [csz_setc, csz_bvs, csz_list, List.length_append, List.length_set, zs_len, List.length_take, List.length_drop, List.length_cons, List.length_nil, List.length_map]); first | done | rfl | omega) | rfl) (hL : L.set i (b, cs', ty) = L' := by (try conv => lhs; simp only [List.setIfInBounds_toArray, List.set_cons_zero, List.set_cons_succ, List.eraseIdx_cons_zero, List.eraseIdx_cons_succ]); first | done | rfl) (hw : Region.wanted o (yielded ops a.tmps) = true := by rfl) : W (o :: rest) a w := s_storeR hStp hH hS hw hop hx hy h1 hn hv hi ho hc hL hk
theorem r_nilCheck {x : Operand} {b off : Nat} (hop : o.op = .nilCheck x) (hx : evO a x = some (.pointer (some ⟨b, off, none⟩))) : (execOp a.eval o).run P w = .ok (.value (.pointer (some ⟨b, off, none⟩))) w := by
  unfold execOp; rw [hop]
  simp only [evO_eval hx]
  rfl
theorem g_nilCheck {x : Operand} {b off : Nat} (hStp : Stp P ops W) (hk : W rest (a.put o.dst (.pointer (some ⟨b, off, none⟩))) w) (hop : o.op = .nilCheck x := by rfl) (hx : evO a x = some (.pointer (some ⟨b, off, none⟩)) := by rfl) (hw : Region.wanted o (yielded ops a.tmps) = true := by rfl) (hd : isDefer o = false := by rfl) : W (o :: rest) a w := hStp.go hw hd (r_nilCheck hop hx) hk
theorem q_nilCheck {x : Operand} {b off : Nat} (hop : o.op = .nilCheck x := by rfl) (hx : evO a x = some (.pointer (some ⟨b, off, none⟩)) := by rfl) : o.quietAt P a C w (.pointer (some ⟨b, off, none⟩)) := q_val (r_nilCheck hop hx)
/-- clear: of one's own block the cells behind a place. -/
theorem s_clear {x : Operand} {t e size bytes b off n c i : Nat} {cs : Array Value} {ty : TypeId} {pre mid zc : List Value} (hs : Stp P ops W) (hH : Own B H) (hS : H w L) (hw : Region.wanted o (yielded ops a.tmps) = true)
    (hop : o.op = .call { callee := .builtin .clear, args := #[x], argTypes := #[t] }) (hx : evO a x = some (.slice (some ⟨b, off, none⟩) n c)) (hT : SlT P t e size bytes) (hz : ZeroT P e zc.toArray) (hzl : zc.length = size) (hzo : ∀ v ∈ zc, v.oneCell' = true) (hn : 0 < n)
    (hi : L[i]? = some (b, cs, ty)) (hcs : cs.toList = pre ++ mid) (hpre : pre.length = off) (hmid : n * size ≤ mid.length)
    (hk : ∀ (z : List Value) (w' : World), z.length = mid.length → H w' (L.set i (b, (pre ++ z).toArray, ty)) → W rest (a.put o.dst (.tuple #[])) w') : W (o :: rest) a w := by
  obtain ⟨ht, inf, z, hie, hz1, hsz, hby, hzs, hps⟩ := elemB_iff hT.is
  obtain ⟨z', hr1, hz2⟩ := run_zero (w := w) hz.is
  have hd : isDefer o = false := by unfold isDefer; rw [hop]
  have hb := hH.blk i hS hi
  have hcl : (Builtin.zeroCells zc.toArray n).toList.length = n * size := by rw [Array.length_toList, size_zeroCells]; simp [hzl]
  have hone : ∀ v ∈ (Builtin.zeroCells zc.toArray n).toList, v.oneCell' = true := by
    intro v hv
    obtain ⟨k, hk2, rfl⟩ := List.getElem_of_mem hv
    rw [hcl] at hk2
    simp only [Builtin.zeroCells, Array.getElem_toList, Array.getElem_map, Array.getElem_range]
    have hlt : k % zc.toArray.size < zc.length := by simp only [List.size_toArray]; exact Nat.mod_lt _ (by rw [hzl]; exact hps)
    have : zc.toArray[k % zc.toArray.size]! = zc[k % zc.toArray.size] := by
      rw [getElem!_pos zc.toArray _ (by simpa using hlt)]
      simp
    rw [this]
    exact hzo _ (List.getElem_mem _)
  have hcsz : cs.size = off + mid.length := by rw [← Array.length_toList, hcs, List.length_append, hpre]
  have hst := run_storeCells_at (P := P) b off ty (Builtin.zeroCells zc.toArray n).toList 0 cs w hb (by rw [hcl, hcsz]; omega) hone
  have hn0 : n ≠ 0 := by omega
  have hrun : (execOp a.eval o).run P w = .ok (.value (.tuple #[])) (w.setRow b (splice cs (off + 0) (Builtin.zeroCells zc.toArray n).toList.toArray)) := by
    unfold execOp; rw [hop]
    simp only [resolve, Sem.run_bind, Sem.run_pure, Result.andThen_ok, invoke, builtin]
    have e1 : #[x].map a.eval = #[.slice (some ⟨b, off, none⟩) n c] := by simp [evO_eval hx]
    rw [e1]
    obtain ⟨m, rfl⟩ : ∃ m, n = m + 1 := ⟨n - 1, by omega⟩
    simp only [Builtin.clear_, Sem.run_bind, Sem.run_pure, List.getElem?_toArray, List.getElem?_cons_zero, run_underlying ht, Result.andThen_ok, hr1, hz2, hst]
  refine hs.go hw hd hrun ?_
  have hrow : splice cs (off + 0) (Builtin.zeroCells zc.toArray n).toList.toArray = (pre ++ ((Builtin.zeroCells zc.toArray n).toList ++ mid.drop (n * size))).toArray := by
    unfold splice
    rw [hcs, Nat.add_zero, ← hpre, List.take_left, List.append_assoc]
    congr 3
    rw [List.drop_append, List.drop_of_length_le (by omega), List.nil_append]
    congr 1
    have : (Builtin.zeroCells zc.toArray n).size = n * size := by simpa using hcl
    simp [this]
  rw [hrow]
  exact hk _ _ (by rw [List.length_append, hcl, List.length_drop]; omega) (hH.setRow i _ hS hi)
/-- A field of a struct, then its own cells: where a row lies within a struct that came in as one value. -/
theorem r_shr1 {x : Operand} {t t' : TypeId} {n : Nat} {q : Int} (hop : o.op = .binOp .shr t x (.const (.int .u64 1)) t') (hx : evO a x = some (.int .u64 (n : Int))) (hq : ((n / 2 : Nat) : Int) = q) (_hn : n < 18446744073709551616) : (execOp a.eval o).run P w = .ok (.value (.int .u64 q)) w := by
  unfold execOp; rw [hop]; subst hq
  simp [evO_eval hx, eqGuard, binOp, Op.shift, show a.eval (.const (.int .u64 1)) = .int .u64 1 from rfl]
  rw [show (2 : Int) ^ min 1 IntKind.u64.bits = 2 from rfl, Int.fdiv_eq_ediv_of_nonneg _ (by decide)]
end
end Go.Proofs.Ytkfggilildiflaa

namespace Go.Proofs.Ytkfggilildiflaa
open Go.RowKit
def nthL {α : Type} : List α → Nat → Option α
  | [], _ => none
  | a :: _, 0 => some a
  | _ :: l, n + 1 => nthL l n
theorem nthL_eq {α : Type} : ∀ (l : List α) (n : Nat), nthL l n = l[n]?
  | [], n => by simp [nthL]
  | a :: l, 0 => by simp [nthL]
  | a :: l, n + 1 => by simp [nthL, nthL_eq l n]
/-- Where a number stands. -/
def posL : List Nat → Nat → Nat
  | [], _ => 0
  | y :: l, x => if y = x then 0 else posL l x + 1
def reE (s : List Nat) (e : Edge) : Edge := ⟨posL s e.on, e.ground⟩
def reG (s : List Nat) : Option (Nat × Bool) → Option (Nat × Bool)
  | none => none
  | some (j, b) => some (posL s j, b)
def reO (s : List Nat) (o : Oper) : Oper := ⟨o.dst, o.op, o.type, o.pos, (o.after.toList.map (reE s)).toArray, reG s o.guard⟩
def orD : Option Oper → Oper
  | some o => o
  | none => default
def permL (s : List Nat) (l : List Oper) : List Oper := s.map fun i => reO s (orD (nthL l i))
def permOK (s : List Nat) (l : List Oper) : Bool :=
  (List.range l.length).all (fun i => decide (posL s i < l.length) && nthL s (posL s i) == some i) &&
  (List.range l.length).all (fun k => match nthL s k with | some i => decide (i < l.length) && posL s i == k | none => false) && s.length == l.length &&
  l.all (fun o => o.after.toList.all (fun e => decide (e.on < l.length)) && (match o.guard with | some g => decide (g.1 < l.length) | none => true))
section
variable {P : Program} {md : Region.Mode} {Q : Exit → Act → World → Prop} {s : List Nat} {l : List Oper}
theorem perm_1 (h : permOK s l = true) {i : Nat} (hi : i < l.length) : posL s i < l.length ∧ s[posL s i]? = some i := by
  simp only [permOK, Bool.and_eq_true] at h
  have := List.all_eq_true.1 h.1.1.1 i (List.mem_range.2 hi)
  simp only [Bool.and_eq_true, decide_eq_true_eq, beq_iff_eq, nthL_eq] at this
  exact this
theorem perm_2 (h : permOK s l = true) {k : Nat} (hk : k < l.length) : ∃ i, s[k]? = some i ∧ i < l.length ∧ posL s i = k := by
  simp only [permOK, Bool.and_eq_true] at h
  have := List.all_eq_true.1 h.1.1.2 k (List.mem_range.2 hk)
  rw [nthL_eq] at this
  split at this
  · next i hi =>
    simp only [Bool.and_eq_true, decide_eq_true_eq, beq_iff_eq] at this
    exact ⟨i, hi, this⟩
  · cases this
theorem perm_len (h : permOK s l = true) : (permL s l).length = l.length := by
  simp only [permOK, Bool.and_eq_true, beq_iff_eq] at h
  unfold permL
  rw [List.length_map, h.1.2]
theorem perm_on (h : permOK s l = true) {i : Nat} {o : Oper} (hi : l[i]? = some o) {e : Edge} (he : e ∈ o.after) : e.on < l.length := by
  simp only [permOK, Bool.and_eq_true] at h
  have := List.all_eq_true.1 h.2 o (List.mem_of_getElem? hi)
  simp only [Bool.and_eq_true] at this
  have := List.all_eq_true.1 this.1 e (by simpa using he)
  simpa using this
theorem perm_guard (h : permOK s l = true) {i : Nat} {o : Oper} (hi : l[i]? = some o) {g : Nat × Bool} (hg : o.guard = some g) : g.1 < l.length := by
  simp only [permOK, Bool.and_eq_true] at h
  have := List.all_eq_true.1 h.2 o (List.mem_of_getElem? hi)
  simp only [Bool.and_eq_true, hg] at this
  simpa using this.2
theorem perm_at (h : permOK s l = true) {i : Nat} {o : Oper} (hi : l[i]? = some o) : (permL s l)[posL s i]? = some (reO s o) := by
  have hil := (List.getElem?_eq_some_iff.1 hi).1
  unfold permL
  rw [List.getElem?_map, (perm_1 h hil).2]
  simp only [Option.map_some, nthL_eq, hi, orD]
theorem perm_yielded (h : permOK s l = true) (tmps : Array Value) {j : Nat} (hj : j < l.length) : yielded (permL s l).toArray tmps (posL s j) = yielded l.toArray tmps j := by
  have hg : l[j]? = some l[j] := List.getElem?_eq_getElem hj
  have h1 := perm_at h hg
  unfold yielded
  rw [List.getElem?_toArray, List.getElem?_toArray, h1, hg]
  rfl
theorem perm_wanted (h : permOK s l = true) {i : Nat} {o : Oper} (hi : l[i]? = some o) (tmps : Array Value) : Region.wanted (reO s o) (yielded (permL s l).toArray tmps) = Region.wanted o (yielded l.toArray tmps) := by
  unfold Region.wanted
  cases hg : o.guard with
  | none => simp only [reO, hg, reG]
  | some g =>
    obtain ⟨j, b⟩ := g
    have := perm_yielded h tmps (perm_guard h hi hg)
    simp only [reO, hg, reG] at this ⊢
    rw [this]
theorem perm_wp (o : Oper) (a : Act) (w : World) (K : Act → World → Prop) : Oper.wp P (reO s o) a w K Q ↔ Oper.wp P o a w K Q := Iff.rfl
theorem perm_asks (o : Oper) (a : Act) (w : World) : (reO s o).asks P a w ↔ o.asks P a w := Iff.rfl
theorem perm_ready (h : permOK s l = true) {x y : Array Bool} (hx : x.size = l.length) (hy : y.size = l.length) (hxy : ∀ i, i < l.length → y.getD (posL s i) true = x.getD i true) {i : Nat} (hil : i < l.length) :
    posL s i ∈ Region.ready md (permL s l).toArray y ↔ i ∈ Region.ready md l.toArray x := by
  have hg : l[i]? = some l[i] := List.getElem?_eq_getElem hil
  have hp := perm_at h hg
  rw [mem_ready, mem_ready, hxy i hil]
  refine and_congr Iff.rfl ⟨?_, ?_⟩
  · rintro ⟨o, ho, hall⟩
    rw [List.getElem?_toArray, hp] at ho
    obtain rfl := Option.some.inj ho
    refine ⟨l[i], by rw [List.getElem?_toArray]; exact hg, fun e he hb => ?_⟩
    have hon := perm_on h hg he
    have h1 := hall (reE s e) (by simp only [reO, List.mem_toArray]; exact List.mem_map.2 ⟨e, by simpa using he, rfl⟩) hb
    have hp1 := (perm_1 h hon).1
    have h1 : y.getD (posL s e.on) false = true := h1
    rw [getD_flip (by omega) false true] at h1 ⊢
    rw [← hxy _ hon]; exact h1
  · rintro ⟨o, ho, hall⟩
    rw [List.getElem?_toArray, hg] at ho
    obtain rfl := Option.some.inj ho
    refine ⟨reO s l[i], by rw [List.getElem?_toArray]; exact hp, fun e he hb => ?_⟩
    simp only [reO, List.mem_toArray] at he
    obtain ⟨e0, he0, rfl⟩ := List.mem_map.1 he
    have he1 : e0 ∈ l[i].after := by simpa using he0
    have hon := perm_on h hg he1
    have h1 := hall e0 he1 hb
    have hp1 := (perm_1 h hon).1
    show y.getD (posL s e0.on) false = true
    rw [getD_flip (by omega) false true] at h1 ⊢
    rw [hxy _ hon]; exact h1
theorem any_perm (h : permOK s l = true) : ∀ (fuel : Nat) (x y : Array Bool) (a : Act) (w : World), x.size = l.length → y.size = l.length → (∀ i, i < l.length → y.getD (posL s i) true = x.getD i true) →
    wpAny P md (permL s l).toArray Q fuel y a w → wpAny P md l.toArray Q fuel x a w := by
  intro fuel
  have hnil : ∀ (x y : Array Bool), x.size = l.length → y.size = l.length → (∀ i, i < l.length → y.getD (posL s i) true = x.getD i true) → (Region.ready md (permL s l).toArray y = [] ↔ Region.ready md l.toArray x = []) := by
    intro x y hx hy hxy
    constructor
    · intro h0
      refine List.eq_nil_iff_forall_not_mem.2 fun i hi => ?_
      obtain ⟨_, o, ho, _⟩ := mem_ready.1 hi
      have hil : i < l.length := by simpa using (Array.getElem?_eq_some_iff.1 ho).1
      have := (perm_ready (md := md) h hx hy hxy hil).2 hi
      rw [h0] at this; cases this
    · intro h0
      refine List.eq_nil_iff_forall_not_mem.2 fun k hk => ?_
      obtain ⟨_, o, ho, _⟩ := mem_ready.1 hk
      have hkl : k < l.length := by have := (Array.getElem?_eq_some_iff.1 ho).1; rw [List.size_toArray, perm_len h] at this; exact this
      obtain ⟨i, hi, hil, rfl⟩ := perm_2 h hkl
      have := (perm_ready (md := md) h hx hy hxy hil).1 hk
      rw [h0] at this; cases this
  induction fuel with
  | zero =>
    intro x y a w hx hy hxy hA
    exact ⟨(hnil x y hx hy hxy).1 hA.1, hA.2⟩
  | succ fuel ih =>
    intro x y a w hx hy hxy hA
    refine ⟨fun h0 => hA.1 ((hnil x y hx hy hxy).2 h0), fun i hi => ?_⟩
    obtain ⟨_, o, ho, _⟩ := mem_ready.1 hi
    have hil : i < l.length := by simpa using (Array.getElem?_eq_some_iff.1 ho).1
    have ho2 : l[i]? = some o := by simpa using ho
    have h1 := hA.2 (posL s i) ((perm_ready (md := md) h hx hy hxy hil).2 hi)
    have hp := perm_at h ho2
    have hK : ∀ a' w', wpAny P md (permL s l).toArray Q fuel (y.setIfInBounds (posL s i) true) a' w' → wpAny P md l.toArray Q fuel (x.setIfInBounds i true) a' w' := fun a' w' hh => by
      refine ih _ _ a' w' (by simpa using hx) (by simpa using hy) (fun j hj => ?_) hh
      have hj1 := perm_1 h hj
      have hi1 := perm_1 h hil
      by_cases hji : j = i
      · subst hji
        simp [Array.getD, hx, hy, hj, hj1.1]
      · have hne : posL s i ≠ posL s j := fun e => hji (by
          have := hj1.2
          rw [← e, hi1.2] at this
          exact (Option.some.inj this).symm)
        rw [getD_set_ne true hne, getD_set_ne true (Ne.symm hji)]
        exact hxy j hj
    unfold wpOp at h1 ⊢
    rw [List.getElem?_toArray, hp] at h1
    rw [List.getElem?_toArray, ho2]
    simp only at h1 ⊢
    rw [perm_wanted h ho2] at h1
    split
    · next hw =>
      rw [if_pos hw] at h1
      exact h1.imp (fun h2 => Oper.wp_mono hK ((perm_wp o a w _).1 h2)) id
    · next hw =>
      rw [if_neg hw] at h1
      exact hK _ _ h1
theorem any_mono {n : Nat} {a : Act} {w : World} (hB : frontOK md (l.take n) (l.drop n) = true)
    (h : wpM P md l.toArray w (fun a' F => ∀ b w', Cls w w' → (∀ x ∈ F, w.heap.size ≤ b x.1 ∧ blk w' (b x.1) = some (.cells x.2.1 x.2.2 (0, 0))) → (∀ x ∈ F, ∀ y ∈ F, x.1 ≠ y.1 → b x.1 ≠ b y.1) → wpList P l.toArray Q (l.drop n) (a' b) w') (l.take n) 0 (fun _ => a) []) :
    wpAny P md l.toArray Q l.length (Array.replicate l.length false) a { w with drawn := w.drawn + 1 } := by
  have hh : l.take n ++ l.drop n = l := List.take_append_drop n l
  generalize l.take n = A at *
  generalize l.drop n = T at *
  subst hh
  obtain ⟨L, hL, hstep, hQ⟩ := wpM_out A 0 _ [] h
  have hc : Cls w { w with drawn := w.drawn + 1 } := ⟨rfl, rfl, rfl, Nat.le_refl _, fun _ _ => rfl⟩
  refine any_front hB hL hstep (fun b w' hN => hQ b w' hN.1 (fun x hx => ?_) (fun x hx y hy hne => ?_)) _ _ (fun _ => 0) a _ (by simp) (fun j o _ hl => by simp only [Array.getD] at hl; split at hl <;> simp at hl) (fun j _ hj => by simp only [List.length_append] at hj; simp [Array.getD]; omega) ?_ ?_ ?_
  · rcases mem_factsT _ _ _ hx with h1 | ⟨k, o, mk, hk, he⟩
    · cases h1
    · have : x.1 = k := by omega
      rw [this]
      exact hN.2.1 k o mk _ _ hk rfl
  · rcases mem_factsT _ _ _ hx with h1 | ⟨k, o, mk, hk, he⟩
    · cases h1
    rcases mem_factsT _ _ _ hy with h1 | ⟨k', o', mk', hk', he'⟩
    · cases h1
    have e1 : x.1 = k := by omega
    have e2 : y.1 = k' := by omega
    rw [e1, e2] at hne ⊢
    exact hN.2.2 k k' _ _ _ _ _ _ _ _ hk hk' rfl rfl hne
  · unfold left
    exact Nat.le_trans List.countP_le_length (by simp)
  · refine (Sees.start L a (fun _ => 0)).congr (fun j _ => ?_) (fun _ _ _ => rfl)
    simp only [Array.getD]
    split <;> simp
  · refine ⟨hc, fun j o mk cs t hj hl => ?_, fun i j x y mx cx tx my cy ty hi hj h1 _ => ?_⟩
    · simp only [Array.getD] at hl
      split at hl <;> simp at hl
    · simp only [Array.getD] at h1
      split at h1 <;> simp at h1
/-- **The region, one walk in an order of one's own** (s: for each place the number of the operation that stands there): the first n in front, the others behind them. -/
theorem region_perm_lit {id : Nat} {a : Act} {w : World} (s : List Nat) (n : Nat) {l2 : List Oper} (hm : P.follows .mixedOrders = true) (hs : permOK s l = true) (hl : permL s l = l2) (hB : frontOK .any (l2.take n) (l2.drop n) = true)
    (h : wpM P .any l2.toArray w (fun a' F => ∀ b w', Cls w w' → (∀ x ∈ F, w.heap.size ≤ b x.1 ∧ blk w' (b x.1) = some (.cells x.2.1 x.2.2 (0, 0))) → (∀ x ∈ F, ∀ y ∈ F, x.1 ≠ y.1 → b x.1 ≠ b y.1) → wpList P l2.toArray Q (l2.drop n) (a' b) w') (l2.take n) 0 (fun _ => a) []) :
    (Code.region id l.toArray true).wp P Q a w := by
  subst hl
  have h1 := any_mono hB h
  rw [perm_len hs] at h1
  refine wp_region_any hm ?_
  refine any_perm hs _ _ _ a _ (by simp) (by simp) (fun i hi => ?_) h1
  have := (perm_1 hs hi).1
  simp [Array.getD, hi, this]
end
end Go.Proofs.Ytkfggilildiflaa

namespace Go.Proofs.Ytkfggilildiflaa
open Go.RowKit
/-- Each operation but those of F waits for number i. -/
def addG (F : List Nat) (i : Nat) : Nat → List Oper → List Oper
  | _, [] => []
  | k, o :: l => (if F.contains k then o else ⟨o.dst, o.op, o.type, o.pos, (o.after.toList ++ [(⟨i, .data⟩ : Edge)]).toArray, o.guard⟩) :: addG F i (k + 1) l
def isMove (o : Oper) : Bool := (match o.op with | .move _ => true | _ => false) && o.after.isEmpty && o.guard.isNone && o.dst.isSome
def fluidOK (F : List Nat) : List Nat → List Oper → Bool
  | [], _ => true
  | i :: r, l => F.contains i && (match l[i]? with | some o => isMove o | none => false) && Region.noSelect l.toArray && Region.free .any l.toArray (Array.replicate l.length false) i && fluidOK F r (addG F i 0 l)
def addGs (F : List Nat) : List Nat → List Oper → List Oper
  | [], l => l
  | i :: r, l => addGs F r (addG F i 0 l)
section
variable {P : Program} {Q : Exit → Act → World → Prop} {F : List Nat} {i : Nat}
theorem addG_len : ∀ (k : Nat) (l : List Oper), (addG F i k l).length = l.length
  | _, [] => rfl
  | k, o :: l => by simp only [addG, List.length_cons, addG_len (k + 1) l]
theorem addG_at : ∀ (k : Nat) (l : List Oper) (j : Nat), (addG F i k l)[j]? = (l[j]?).map fun o => if F.contains (k + j) then o else ⟨o.dst, o.op, o.type, o.pos, (o.after.toList ++ [(⟨i, .data⟩ : Edge)]).toArray, o.guard⟩
  | k, [], j => by simp [addG]
  | k, o :: l, 0 => by simp [addG]
  | k, o :: l, j + 1 => by
    simp only [addG, List.getElem?_cons_succ]
    rw [addG_at (k + 1) l j, show k + 1 + j = k + (j + 1) by omega]
theorem addG_yielded (l : List Oper) (tmps : Array Value) (j : Nat) : yielded (addG F i 0 l).toArray tmps j = yielded l.toArray tmps j := by
  unfold yielded
  rw [List.getElem?_toArray, List.getElem?_toArray, addG_at]
  cases l[j]? with
  | none => rfl
  | some o =>
    have e : (if F.contains (0 + j) = true then o else ⟨o.dst, o.op, o.type, o.pos, (o.after.toList ++ [(⟨i, .data⟩ : Edge)]).toArray, o.guard⟩ : Oper).dst = o.dst := by split <;> rfl
    simp only [Option.map_some, Option.bind_some, e]
theorem addG_ready {l : List Oper} {x : Array Bool} (hx : x.getD i false = true) {j : Nat} : j ∈ Region.ready .any (addG F i 0 l).toArray x ↔ j ∈ Region.ready .any l.toArray x := by
  rw [mem_ready, mem_ready]
  refine and_congr Iff.rfl ?_
  rw [List.getElem?_toArray, List.getElem?_toArray, addG_at]
  cases l[j]? with
  | none => simp
  | some o =>
    simp only [Option.map_some, Option.some.injEq, exists_eq_left']
    by_cases hF : F.contains (0 + j) = true
    · rw [if_pos hF]
    · rw [if_neg hF]
      constructor
      · intro h e he hb
        exact h e (by simp only [List.mem_toArray, List.mem_append]; exact .inl (by simpa using he)) hb
      · intro h e he hb
        simp only [List.mem_toArray, List.mem_append, List.mem_singleton] at he
        rcases he with he | rfl
        · exact h e (by simpa using he) hb
        · exact hx
theorem any_drop {l : List Oper} : ∀ (fuel : Nat) (x : Array Bool) (a : Act) (w : World), x.getD i false = true → wpAny P .any (addG F i 0 l).toArray Q fuel x a w → wpAny P .any l.toArray Q fuel x a w := by
  have hnil : ∀ (x : Array Bool), x.getD i false = true → (Region.ready .any (addG F i 0 l).toArray x = [] ↔ Region.ready .any l.toArray x = []) := by
    intro x hx
    rw [List.eq_nil_iff_forall_not_mem, List.eq_nil_iff_forall_not_mem]
    exact forall_congr' fun j => not_congr (addG_ready hx)
  intro fuel
  induction fuel with
  | zero => intro x a w hx h; exact ⟨(hnil x hx).1 h.1, h.2⟩
  | succ fuel ih =>
    intro x a w hx h
    refine ⟨fun h0 => h.1 ((hnil x hx).2 h0), fun j hj => ?_⟩
    obtain ⟨_, o, ho, _⟩ := mem_ready.1 hj
    have h1 := h.2 j ((addG_ready hx).2 hj)
    have hxi : (x.setIfInBounds j true).getD i false = true := by
      by_cases hji : j = i
      · subst hji
        simp only [Array.getD] at hx ⊢
        split at hx
        · next hlt => simp [hlt]
        · cases hx
      · rw [getD_set_ne false hji]; exact hx
    have hK : ∀ a' w', wpAny P .any (addG F i 0 l).toArray Q fuel (x.setIfInBounds j true) a' w' → wpAny P .any l.toArray Q fuel (x.setIfInBounds j true) a' w' := fun a' w' hh => ih _ a' w' hxi hh
    have ho2 : l[j]? = some o := by simpa using ho
    unfold wpOp at h1 ⊢
    rw [List.getElem?_toArray, addG_at, ho2] at h1
    rw [List.getElem?_toArray, ho2]
    simp only [Option.map_some] at h1 ⊢
    have hw : ∀ o' : Oper, o'.guard = o.guard → Region.wanted o' (yielded (addG F i 0 l).toArray a.tmps) = Region.wanted o (yielded l.toArray a.tmps) := by
      intro o' hg
      unfold Region.wanted
      rw [hg]
      cases o.guard with
      | none => rfl
      | some g => simp only [addG_yielded]
    have key : ∀ o' : Oper, o'.op = o.op → o'.dst = o.dst → o'.guard = o.guard → (Oper.wp P o' a w (wpAny P .any (addG F i 0 l).toArray Q fuel (x.setIfInBounds j true)) Q ↔ Oper.wp P o a w (wpAny P .any (addG F i 0 l).toArray Q fuel (x.setIfInBounds j true)) Q) ∧ (o'.asks P a w ↔ o.asks P a w) →
        (if Region.wanted o' (yielded (addG F i 0 l).toArray a.tmps) = true then Oper.wp P o' a w (wpAny P .any (addG F i 0 l).toArray Q fuel (x.setIfInBounds j true)) Q ∨ (o'.asks P a w ∧ LetsOut Q) else wpAny P .any (addG F i 0 l).toArray Q fuel (x.setIfInBounds j true) (a.put o'.dst undef) w) →
        (if Region.wanted o (yielded l.toArray a.tmps) = true then Oper.wp P o a w (wpAny P .any l.toArray Q fuel (x.setIfInBounds j true)) Q ∨ (o.asks P a w ∧ LetsOut Q) else wpAny P .any l.toArray Q fuel (x.setIfInBounds j true) (a.put o.dst undef) w) := by
      intro o' _ hd hg hiff hh
      rw [hw o' hg] at hh
      split
      · next hwt =>
        rw [if_pos hwt] at hh
        exact hh.imp (fun h2 => Oper.wp_mono hK (hiff.1.1 h2)) (fun h2 => ⟨hiff.2.1 h2.1, h2.2⟩)
      · next hwt =>
        rw [if_neg hwt, hd] at hh
        exact hK _ _ hh
    by_cases hF : F.contains (0 + j) = true
    · rw [if_pos hF] at h1
      exact key o rfl rfl rfl ⟨Iff.rfl, Iff.rfl⟩ h1
    · rw [if_neg hF] at h1
      exact key _ rfl rfl rfl ⟨Iff.rfl, Iff.rfl⟩ h1
theorem any_one {l : List Oper} {o : Oper} (ho : l[i]? = some o) (hm : isMove o = true) (hF : F.contains i = true) (hs : Region.noSelect l.toArray = true) (hf : Region.free .any l.toArray (Array.replicate l.length false) i = true) (hQ : ∀ (d : Nat) v c a w, Q (.panic c) (a.put (some d) v) w → Q (.panic c) a w)
    {fuel : Nat} {a : Act} {w : World} (h : wpAny P .any (addG F i 0 l).toArray Q fuel (Array.replicate l.length false) a w) : wpAny P .any l.toArray Q fuel (Array.replicate l.length false) a w := by
  have hil := (List.getElem?_eq_some_iff.1 ho).1
  simp only [isMove, Bool.and_eq_true] at hm
  obtain ⟨⟨⟨hmo, hma⟩, hmg⟩, hmd⟩ := hm
  obtain ⟨d, hd⟩ := Option.isSome_iff_exists.1 hmd
  have hg : o.guard = none := by simpa using hmg
  have hae : o.after = #[] := by simpa using hma
  have hr0 : ∀ {L : List Oper}, L[i]? = some o → i ∈ Region.ready .any L.toArray (Array.replicate l.length false) := fun {L} hL => by
    refine mem_ready.2 ⟨by simp [Array.getD, hil], o, by simpa using hL, fun e he => ?_⟩
    rw [hae] at he
    simp at he
  have hL2 : (addG F i 0 l)[i]? = some o := by rw [addG_at, ho, Option.map_some, Nat.zero_add, if_pos hF]
  obtain ⟨x, hx⟩ : ∃ x, o.op = .move x := by
    cases hop : o.op <;> rw [hop] at hmo <;> first | exact ⟨_, rfl⟩ | (cases hmo)
  have hrun : ∀ w, (execOp a.eval o).run P w = .ok (.value (a.eval x)) w := fun w => by unfold execOp; rw [hx]; rfl
  have hwt : ∀ y, Region.wanted o y = true := fun y => by unfold Region.wanted; rw [hg]
  cases fuel with
  | zero =>
    have := hr0 hL2
    rw [h.1] at this; cases this
  | succ fuel =>
    have h1 := h.2 i (hr0 hL2)
    unfold wpOp at h1
    rw [List.getElem?_toArray, hL2] at h1
    simp only at h1
    rw [if_pos (hwt _)] at h1
    have h2 : wpAny P .any (addG F i 0 l).toArray Q fuel ((Array.replicate l.length false).setIfInBounds i true) (a.put o.dst (a.eval x)) w := by
      rcases h1 with h1 | ⟨h1, _⟩
      · unfold Oper.wp at h1
        rw [hrun] at h1
        exact h1
      · exfalso
        have h3 := h1.1
        have h4 : ((execOp a.eval o).runT P w #[]).2 = #[] := by
          unfold execOp
          rw [hx]
          rfl
        rw [h4] at h3
        simp at h3
    have h3 := any_drop fuel _ _ w (by simp [Array.getD, hil]) h2
    exact wpAny_take (by simpa using ho) hs hf (by simpa using hr0 ho) (fun c a w => by rw [hd]; exact hQ _ _ c a w) (.inl ⟨hwt _, hrun⟩) h3
theorem any_fluid : ∀ (R : List Nat) (l : List Oper), fluidOK F R l = true → (∀ (d : Nat) v c a w, Q (.panic c) (a.put (some d) v) w → Q (.panic c) a w) → ∀ {fuel : Nat} {a : Act} {w : World},
    wpAny P .any (addGs F R l).toArray Q fuel (Array.replicate l.length false) a w → wpAny P .any l.toArray Q fuel (Array.replicate l.length false) a w
  | [], l, _, _, _, _, _, h => h
  | i :: R, l, hok, hQ, fuel, a, w, h => by
    simp only [fluidOK, Bool.and_eq_true] at hok
    obtain ⟨⟨⟨⟨h1, h2⟩, h3⟩, h4⟩, h5⟩ := hok
    split at h2
    · next o ho =>
      refine any_one ho h2 h1 h3 h4 hQ ?_
      have h6 := any_fluid R (addG F i 0 l) h5 hQ (fuel := fuel) (a := a) (w := w) (by rw [addG_len]; exact h)
      rw [addG_len] at h6
      exact h6
    · cases h2
/-- **The region, some copies first (F), then one walk in an order of one's own.** -/
theorem region_fluid_lit {id : Nat} {a : Act} {w : World} {l : List Oper} (F : List Nat) (s : List Nat) (n : Nat) {l2 : List Oper} (hm : P.follows .mixedOrders = true) (hF : fluidOK F F l = true) (hlen : (addGs F F l).length = l.length) (hs : permOK s (addGs F F l) = true) (hl : permL s (addGs F F l) = l2) (hB : frontOK .any (l2.take n) (l2.drop n) = true)
    (hQ : ∀ (d : Nat) v c a w, Q (.panic c) (a.put (some d) v) w → Q (.panic c) a w)
    (h : wpM P .any l2.toArray w (fun a' F => ∀ b w', Cls w w' → (∀ x ∈ F, w.heap.size ≤ b x.1 ∧ blk w' (b x.1) = some (.cells x.2.1 x.2.2 (0, 0))) → (∀ x ∈ F, ∀ y ∈ F, x.1 ≠ y.1 → b x.1 ≠ b y.1) → wpList P l2.toArray Q (l2.drop n) (a' b) w') (l2.take n) 0 (fun _ => a) []) :
    (Code.region id l.toArray true).wp P Q a w := by
  subst hl
  have h1 := any_mono hB h
  rw [perm_len hs] at h1
  refine wp_region_any hm ?_
  rw [List.size_toArray]
  refine any_fluid F l hF hQ ?_
  rw [← hlen]
  refine any_perm hs _ _ _ a _ (by simp) (by simp) (fun i hi => ?_) h1
  have := (perm_1 hs hi).1
  simp [Array.getD, hi, this]
end
end Go.Proofs.Ytkfggilildiflaa

namespace Go.Proofs.Ytkfggilildiflaa
open Go.RowKit
section
variable {P : Program} {md : Region.Mode} {Q : Exit → Act → World → Prop} {s : List Nat} {l : List Oper} {lp : Nat}
theorem permR_wp (o : Oper) (a : Act) (w : World) (K : Act → World → Prop) : Oper.wpIn (Fence.wide.inRound lp) 0 P (reO s o) a w K Q ↔ Oper.wpIn (Fence.wide.inRound lp) 0 P o a w K Q := Iff.rfl
theorem any_permR (h : permOK s l = true) : ∀ (fuel : Nat) (x y : Array Bool) (a : Act) (w : World), x.size = l.length → y.size = l.length → (∀ i, i < l.length → y.getD (posL s i) true = x.getD i true) →
    wpAnyIn (Fence.wide.inRound lp) 0 P md (permL s l).toArray Q fuel y a w → wpAnyIn (Fence.wide.inRound lp) 0 P md l.toArray Q fuel x a w := by
  intro fuel
  have hnil : ∀ (x y : Array Bool), x.size = l.length → y.size = l.length → (∀ i, i < l.length → y.getD (posL s i) true = x.getD i true) → (Region.ready md (permL s l).toArray y = [] ↔ Region.ready md l.toArray x = []) := by
    intro x y hx hy hxy
    constructor
    · intro h0
      refine List.eq_nil_iff_forall_not_mem.2 fun i hi => ?_
      obtain ⟨_, o, ho, _⟩ := mem_ready.1 hi
      have hil : i < l.length := by simpa using (Array.getElem?_eq_some_iff.1 ho).1
      have := (perm_ready (md := md) h hx hy hxy hil).2 hi
      rw [h0] at this; cases this
    · intro h0
      refine List.eq_nil_iff_forall_not_mem.2 fun k hk => ?_
      obtain ⟨_, o, ho, _⟩ := mem_ready.1 hk
      have hkl : k < l.length := by have := (Array.getElem?_eq_some_iff.1 ho).1; rw [List.size_toArray, perm_len h] at this; exact this
      obtain ⟨i, hi, hil, rfl⟩ := perm_2 h hkl
      have := (perm_ready (md := md) h hx hy hxy hil).1 hk
      rw [h0] at this; cases this
  induction fuel with
  | zero =>
    intro x y a w hx hy hxy hA
    exact ⟨(hnil x y hx hy hxy).1 hA.1, hA.2⟩
  | succ fuel ih =>
    intro x y a w hx hy hxy hA
    refine ⟨fun h0 => hA.1 ((hnil x y hx hy hxy).2 h0), fun i hi => ?_⟩
    obtain ⟨_, o, ho, _⟩ := mem_ready.1 hi
    have hil : i < l.length := by simpa using (Array.getElem?_eq_some_iff.1 ho).1
    have ho2 : l[i]? = some o := by simpa using ho
    have h1 := hA.2 (posL s i) ((perm_ready (md := md) h hx hy hxy hil).2 hi)
    have hp := perm_at h ho2
    have hK : ∀ a' w', wpAnyIn (Fence.wide.inRound lp) 0 P md (permL s l).toArray Q fuel (y.setIfInBounds (posL s i) true) a' w' → wpAnyIn (Fence.wide.inRound lp) 0 P md l.toArray Q fuel (x.setIfInBounds i true) a' w' := fun a' w' hh => by
      refine ih _ _ a' w' (by simpa using hx) (by simpa using hy) (fun j hj => ?_) hh
      have hj1 := perm_1 h hj
      have hi1 := perm_1 h hil
      by_cases hji : j = i
      · subst hji
        simp [Array.getD, hx, hy, hj, hj1.1]
      · have hne : posL s i ≠ posL s j := fun e => hji (by
          have := hj1.2
          rw [← e, hi1.2] at this
          exact (Option.some.inj this).symm)
        rw [getD_set_ne true hne, getD_set_ne true (Ne.symm hji)]
        exact hxy j hj
    unfold wpOpIn at h1 ⊢
    rw [List.getElem?_toArray, hp] at h1
    rw [List.getElem?_toArray, ho2]
    simp only at h1 ⊢
    rw [perm_wanted h ho2] at h1
    split
    · next hw =>
      rw [if_pos hw] at h1
      exact Oper.wpIn_mono hK ((permR_wp o a w _).1 h1)
    · next hw =>
      rw [if_neg hw] at h1
      exact ⟨h1.1, hK _ _ h1.2⟩
theorem any_monoR {n : Nat} {a : Act} {w : World} (hB : frontOK md (l.take n) (l.drop n) = true) (hND : noDefer (l.take n) = true)
    (h : wpM P md l.toArray w (fun a' F => ∀ b w', Cls w w' → (∀ x ∈ F, w.heap.size ≤ b x.1 ∧ blk w' (b x.1) = some (.cells x.2.1 x.2.2 (0, 0))) → (∀ x ∈ F, ∀ y ∈ F, x.1 ≠ y.1 → b x.1 ≠ b y.1) → wpListIn (Fence.wide.inRound lp) 0 P l.toArray Q (l.drop n) (a' b) w') (l.take n) 0 (fun _ => a) []) :
    wpAnyIn (Fence.wide.inRound lp) 0 P md l.toArray Q l.length (Array.replicate l.length false) a { w with drawn := w.drawn + 1 } := by
  have hh : l.take n ++ l.drop n = l := List.take_append_drop n l
  generalize l.take n = A at *
  generalize l.drop n = T at *
  subst hh
  obtain ⟨L, hL, hstep, hQ⟩ := wpM_out A 0 _ [] h
  have hc : Cls w { w with drawn := w.drawn + 1 } := ⟨rfl, rfl, rfl, Nat.le_refl _, fun _ _ => rfl⟩
  refine any_frontR hB hND hL hstep (fun b w' hN => hQ b w' hN.1 (fun x hx => ?_) (fun x hx y hy hne => ?_)) _ _ (fun _ => 0) a _ (by simp) (fun j o _ hl => by simp only [Array.getD] at hl; split at hl <;> simp at hl) (fun j _ hj => by simp only [List.length_append] at hj; simp [Array.getD]; omega) ?_ ?_ ?_
  · rcases mem_factsT _ _ _ hx with h1 | ⟨k, o, mk, hk, he⟩
    · cases h1
    · have : x.1 = k := by omega
      rw [this]
      exact hN.2.1 k o mk _ _ hk rfl
  · rcases mem_factsT _ _ _ hx with h1 | ⟨k, o, mk, hk, he⟩
    · cases h1
    rcases mem_factsT _ _ _ hy with h1 | ⟨k', o', mk', hk', he'⟩
    · cases h1
    have e1 : x.1 = k := by omega
    have e2 : y.1 = k' := by omega
    rw [e1, e2] at hne ⊢
    exact hN.2.2 k k' _ _ _ _ _ _ _ _ hk hk' rfl rfl hne
  · unfold left
    exact Nat.le_trans List.countP_le_length (by simp)
  · refine (Sees.start L a (fun _ => 0)).congr (fun j _ => ?_) (fun _ _ _ => rfl)
    simp only [Array.getD]
    split <;> simp
  · refine ⟨hc, fun j o mk cs t hj hl => ?_, fun i j x y mx cx tx my cy ty hi hj h1 _ => ?_⟩
    · simp only [Array.getD] at hl
      split at hl <;> simp at hl
    · simp only [Array.getD] at h1
      split at h1 <;> simp at h1
/-- **The region, one walk in an order of one's own** (s: for each place the number of the operation that stands there): the first n in front, the others behind them. -/
theorem region_permR_lit {id : Nat} {a : Act} {w : World} (s : List Nat) (n : Nat) {l2 : List Oper} (hm : P.follows .mixedOrders = true) (hs : permOK s l = true) (hl : permL s l = l2) (hB : frontOK .any (l2.take n) (l2.drop n) = true) (hND : noDefer (l2.take n) = true)
    (h : wpM P .any l2.toArray w (fun a' F => ∀ b w', Cls w w' → (∀ x ∈ F, w.heap.size ≤ b x.1 ∧ blk w' (b x.1) = some (.cells x.2.1 x.2.2 (0, 0))) → (∀ x ∈ F, ∀ y ∈ F, x.1 ≠ y.1 → b x.1 ≠ b y.1) → wpListIn (Fence.wide.inRound lp) 0 P l2.toArray Q (l2.drop n) (a' b) w') (l2.take n) 0 (fun _ => a) []) :
    (Code.region id l.toArray true).wpIn (Fence.wide.inRound lp) 0 P Q a w := by
  subst hl
  have h1 := any_monoR hB hND h
  rw [perm_len hs] at h1
  refine wpIn_region_any hm ?_
  refine any_permR hs _ _ _ a _ (by simp) (by simp) (fun i hi => ?_) h1
  have := (perm_1 hs hi).1
  simp [Array.getD, hi, this]
theorem wpM_allocZ {ops : Array Oper} {W : World} {Q : ((Nat → Nat) → Act) → List Fact → Prop} {o : Oper} {rest : List Oper} {i : Nat} {a : (Nat → Nat) → Act} {F : List Fact} {t : TypeId} {cs : Array Value} (ho : o.op = .alloc t) (hz : ZeroT P t cs) (hw : ∀ b, Region.wanted o (yielded ops (a b).tmps) = true)
    (h : wpM P md ops W Q rest (i + 1) (fun b => (a b).put o.dst (.pointer (some ⟨b i, 0, none⟩))) ((i, cs, t) :: F)) : wpM P md ops W Q (o :: rest) i a F :=
  wpM_alloc ho hw cs (fun w => by
    obtain ⟨z, h1, h2⟩ := run_zero (w := w) hz.is
    unfold execOp
    simp only [Instr.alloc, Sem.run_bind, h1, Result.andThen_ok, newVar, newRow, h2]
    rfl) h
end
end Go.Proofs.Ytkfggilildiflaa

namespace Go.Proofs.Ytkfggilildiflaa
open Go.RowKit
/-- The operation s waits for number i as well. -/
def lateO (i : Nat) (o : Oper) : Oper := ⟨o.dst, o.op, o.type, o.pos, (o.after.toList ++ [(⟨i, .data⟩ : Edge)]).toArray, o.guard⟩
def lateL (i : Nat) : Nat → List Oper → List Oper
  | _, [] => []
  | 0, o :: l => lateO i o :: l
  | s + 1, o :: l => o :: lateL i s l
def isExtract (o : Oper) : Bool := match o.op with | .extract .. => true | _ => false
def isStore (o : Oper) : Bool := match o.op with | .store .. => true | _ => false
def lateOK (i s : Nat) (l : List Oper) : Bool :=
  match l[i]?, l[s]? with
  | some oi, some os => i != s && isExtract oi && isStore os && oi.guard.isNone && os.guard.isNone && os.dst.isNone && oi.apart l.toArray os && oi.after.toList.all (fun e => !Region.binds .any e || (os.after.toList.any fun e2 => Region.binds .any e2 && e2.on == e.on)) &&
      (List.range l.length).all (fun j => j == i || j == s || (os.after.toList.any fun e => Region.binds .any e && e.on == j) || (match l[j]? with | some o => o.after.toList.any (fun e => Region.binds .any e && e.on == i) | none => true))
  | _, _ => false
section
variable {P : Program} {Q : Exit → Act → World → Prop} {i s : Nat} {l : List Oper} {lp : Nat}
theorem lateL_len : ∀ (s : Nat) (l : List Oper), (lateL i s l).length = l.length
  | _, [] => by simp [lateL]
  | 0, _ :: _ => rfl
  | s + 1, _ :: l => by simp only [lateL, List.length_cons, lateL_len s l]
theorem lateL_at : ∀ (s : Nat) (l : List Oper) (j : Nat), (lateL i s l)[j]? = (l[j]?).map fun o => if j = s then lateO i o else o
  | _, [], j => by simp [lateL]
  | 0, o :: l, 0 => by simp [lateL]
  | 0, o :: l, j + 1 => by simp [lateL]
  | s + 1, o :: l, 0 => by simp [lateL]
  | s + 1, o :: l, j + 1 => by
    simp only [lateL, List.getElem?_cons_succ]
    rw [lateL_at s l j]
    simp only [Nat.add_right_cancel_iff]
theorem late_yielded (tmps : Array Value) (j : Nat) : yielded (lateL i s l).toArray tmps j = yielded l.toArray tmps j := by
  unfold yielded
  rw [List.getElem?_toArray, List.getElem?_toArray, lateL_at]
  cases l[j]? with
  | none => rfl
  | some o =>
    have e : (if j = s then lateO i o else o).dst = o.dst := by split <;> rfl
    simp only [Option.map_some, Option.bind_some, e]
theorem late_wanted (o : Oper) (tmps : Array Value) : Region.wanted o (yielded (lateL i s l).toArray tmps) = Region.wanted o (yielded l.toArray tmps) := by
  unfold Region.wanted
  cases o.guard with
  | none => rfl
  | some g => simp only [late_yielded]
theorem late_ready {x : Array Bool} {j : Nat} (h : j ∈ Region.ready .any l.toArray x) (hj : j ≠ s ∨ x.getD i false = true) : j ∈ Region.ready .any (lateL i s l).toArray x := by
  rw [mem_ready] at h ⊢
  obtain ⟨h0, o, ho, hall⟩ := h
  rw [List.getElem?_toArray] at ho
  refine ⟨h0, if j = s then lateO i o else o, by rw [List.getElem?_toArray, lateL_at, ho]; rfl, ?_⟩
  intro e he hb
  by_cases hjs : j = s
  · rw [if_pos hjs] at he
    simp only [lateO, List.mem_toArray, List.mem_append, List.mem_singleton] at he
    rcases he with he | rfl
    · exact hall e (by simpa using he) hb
    · exact hj.resolve_left (fun hh => hh hjs)
  · rw [if_neg hjs] at he
    exact hall e he hb
theorem late_ready' {x : Array Bool} {j : Nat} (h : j ∈ Region.ready .any (lateL i s l).toArray x) : j ∈ Region.ready .any l.toArray x := by
  rw [mem_ready] at h ⊢
  obtain ⟨h0, o, ho, hall⟩ := h
  rw [List.getElem?_toArray, lateL_at] at ho
  cases hl : l[j]? with
  | none => rw [hl] at ho; cases ho
  | some o' =>
    rw [hl] at ho
    have ho := Option.some.inj ho
    refine ⟨h0, o', by rw [List.getElem?_toArray]; exact hl, fun e he hb => hall e ?_ hb⟩
    rw [← ho]
    split
    · simp only [lateO, List.mem_toArray, List.mem_append]
      exact .inl (by simpa using he)
    · exact he
theorem late_op {j : Nat} {K : Act → World → Prop} {a : Act} {w : World} (h : wpOpIn (Fence.wide.inRound lp) 0 P (lateL i s l).toArray Q j K a w) : wpOpIn (Fence.wide.inRound lp) 0 P l.toArray Q j K a w := by
  unfold wpOpIn at h ⊢
  rw [List.getElem?_toArray, lateL_at] at h
  rw [List.getElem?_toArray]
  cases hl : l[j]? with
  | none => rw [hl] at h; exact h
  | some o =>
    rw [hl] at h
    simp only [Option.map_some] at h ⊢
    by_cases hjs : j = s
    · rw [if_pos hjs] at h
      have e : Region.wanted (lateO i o) (yielded (lateL i s l).toArray a.tmps) = Region.wanted o (yielded l.toArray a.tmps) := (late_wanted (lateO i o) a.tmps).trans rfl
      rw [e] at h
      exact h
    · rw [if_neg hjs, late_wanted] at h
      exact h
theorem extract_is {o : Oper} (h : isExtract o = true) : ∃ x n, o.op = .extract x n := by
  unfold isExtract at h
  split at h
  · next x n e => exact ⟨x, n, e⟩
  · cases h
theorem store_is {o : Oper} (h : isStore o = true) : ∃ t x y, o.op = .store t x y := by
  unfold isStore at h
  split at h
  · next t x y e => exact ⟨t, x, y, e⟩
  · cases h
/-- What an extract does, in whatever world: a value, or it is stuck. -/
theorem extract_run {o : Oper} (h : isExtract o = true) (ρ : Operand → Value) : (∃ u, ∀ w, (execOp ρ o).run P w = .ok (.value u) w) ∨ ∀ w, ∃ x w', (execOp ρ o).run P w = .halt x w' ∧ ∀ v, x ≠ .panic v := by
  obtain ⟨x, n, e⟩ := extract_is h
  unfold execOp
  rw [e]
  simp only [Instr.extract]
  split
  · next vs _ =>
    cases vs[n]? with
    | some u => exact .inl ⟨u, fun w => rfl⟩
    | none => exact .inr fun w => ⟨_, _, rfl, fun v h => by cases h⟩
  · exact .inr fun w => ⟨_, _, rfl, fun v h => by cases h⟩
theorem any_late (hok : lateOK i s l = true) (hQ : ∀ (d : Option Tmp) v c a w, Q (.panic c) (a.put d v) w → Q (.panic c) a w) : ∀ (fuel : Nat) (x : Array Bool) (a : Act) (w : World), x.size = l.length →
    wpAnyIn (Fence.wide.inRound lp) 0 P .any (lateL i s l).toArray Q fuel x a w → wpAnyIn (Fence.wide.inRound lp) 0 P .any l.toArray Q fuel x a w := by
  unfold lateOK at hok
  split at hok
  rotate_left
  · cases hok
  next oi os hi hs =>
  simp only [Bool.and_eq_true, bne_iff_ne, ne_eq, Option.isNone_iff_eq_none] at hok
  obtain ⟨⟨⟨⟨⟨⟨⟨⟨hne, hex⟩, hst⟩, hgi⟩, hgs⟩, hds⟩, hap⟩, hdeps⟩, hcov⟩ := hok
  obtain ⟨h1, h2, h3⟩ := Oper.apart_spec hap
  have hil := (List.getElem?_eq_some_iff.1 hi).1
  have hsl := (List.getElem?_eq_some_iff.1 hs).1
  have bindS : ∀ (x : Array Bool), s ∈ Region.ready .any l.toArray x → ∀ e ∈ os.after, Region.binds .any e = true → x.getD e.on false = true := by
    intro x hx e he hb
    obtain ⟨_, o, ho, hall⟩ := mem_ready.1 hx
    rw [List.getElem?_toArray, hs] at ho
    obtain rfl := Option.some.inj ho
    exact hall e he hb
  have readyI : ∀ (x : Array Bool), x.getD i true = false → s ∈ Region.ready .any l.toArray x → i ∈ Region.ready .any l.toArray x := by
    intro x hx hs2
    rw [mem_ready]
    refine ⟨hx, oi, by rw [List.getElem?_toArray]; exact hi, fun e he hb => ?_⟩
    have := List.all_eq_true.1 hdeps e (by simpa using he)
    rw [hb] at this
    simp only [Bool.not_true, Bool.false_or, List.any_eq_true, Bool.and_eq_true, beq_iff_eq] at this
    obtain ⟨e2, he2, hb2, hon⟩ := this
    rw [← hon]
    exact bindS x hs2 e2 (by simpa using he2) hb2
  have hwi : ∀ (ops : Array Oper) tmps, Region.wanted oi (yielded ops tmps) = true := fun ops tmps => by unfold Region.wanted; rw [hgi]
  have hws : ∀ (ops : Array Oper) tmps, Region.wanted os (yielded ops tmps) = true := fun ops tmps => by unfold Region.wanted; rw [hgs]
  obtain ⟨st, sx, sy, hsop⟩ := store_is hst
  obtain ⟨ex, en, heop⟩ := extract_is hex
  have hsemI : ∀ a : Act, oi.semAt (Fence.wide.inRound lp).round a.eval = execOp a.eval oi := fun a => Oper.semAt_plain _ _ _ (by rw [heop]; intro c hc; cases hc)
  have hsemS : ∀ a : Act, os.semAt (Fence.wide.inRound lp).round a.eval = execOp a.eval os := fun a => Oper.semAt_plain _ _ _ (by rw [hsop]; intro c hc; cases hc)
  have haboutI : ∀ (a : Act) (w : World) f, oi.about P w a.eval = some f → (Fence.wide.inRound lp).fn f := fun a w f hf => trivial
  intro fuel
  induction fuel using Nat.strongRecOn with
  | ind fuel ih =>
  intro x a w hx hA
  cases fuel with
  | zero =>
    refine ⟨List.eq_nil_iff_forall_not_mem.2 fun j hj => ?_, hA.2⟩
    have hn := hA.1
    by_cases hji : j ≠ s ∨ x.getD i false = true
    · have := late_ready (i := i) (s := s) hj hji
      rw [hn] at this; cases this
    · have hjs : j = s := Decidable.byContradiction fun hh => hji (.inl hh)
      have hxi : x.getD i true = false := by
        rw [getD_flip (by omega) true false]
        cases hb : x.getD i false with
        | true => exact absurd (.inr hb) hji
        | false => rfl
      have := late_ready (i := i) (s := s) (readyI x hxi (hjs ▸ hj)) (.inl hne)
      rw [hn] at this; cases this
  | succ f =>
    refine ⟨fun h0 => hA.1 (List.eq_nil_iff_forall_not_mem.2 fun j hj => by have := late_ready' hj; rw [h0] at this; cases this), fun j hj => ?_⟩
    by_cases hji : j ≠ s ∨ x.getD i false = true
    · exact wpOpIn_mono (fun a' w' hh => ih f (Nat.lt_succ_self f) _ a' w' (by simpa using hx) hh) (late_op (hA.2 j (late_ready hj hji)))
    · have hjs : j = s := Decidable.byContradiction fun hh => hji (.inl hh)
      subst hjs
      have hxi : x.getD i true = false := by
        rw [getD_flip (by omega) true false]
        cases hb : x.getD i false with
        | true => exact absurd (.inr hb) hji
        | false => rfl
      have hri := readyI x hxi hj
      have H1 := hA.2 i (late_ready hri (.inl hne))
      have H1 := late_op H1
      unfold wpOpIn at H1
      rw [List.getElem?_toArray, hi] at H1
      simp only [hwi, if_true] at H1
      unfold Oper.wpIn at H1
      rw [hsemI] at H1
      obtain ⟨_, H1⟩ := H1
      rcases extract_run (P := P) hex a.eval with ⟨u, hu⟩ | hbad
      rotate_left
      · obtain ⟨hx1, w1, hrun, hnp⟩ := hbad w
        rw [hrun] at H1
        cases hx1 <;> first | exact H1.elim | exact absurd rfl (hnp _)
      rw [hu w] at H1
      simp only [Oper.uponIn] at H1
      have hsz : (x.setIfInBounds i true).size = l.length := by simpa using hx
      have hs' : j ∈ Region.ready .any (lateL i j l).toArray (x.setIfInBounds i true) := by
        refine late_ready (ready_mono hj (Ne.symm hne)) (.inr ?_)
        simp [Array.getD, hx, hil]
      cases f with
      | zero => have := H1.1; rw [this] at hs'; cases hs'
      | succ f =>
        have H2 := late_op (H1.2 j hs')
        unfold wpOpIn at H2 ⊢
        rw [List.getElem?_toArray, hs] at H2 ⊢
        simp only [hws, if_true] at H2 ⊢
        unfold Oper.wpIn at H2 ⊢
        rw [hsemS] at H2 ⊢
        rw [execOp_put (ops := l.toArray) os (by rw [hsop]; intro cs b hc; cases hc) a oi.dst u h1] at H2
        refine ⟨fun f hf => trivial, ?_⟩
        obtain ⟨_, H2⟩ := H2
        have hform : (∃ w2, (execOp a.eval os).run P w = .ok .skip w2) ∨ ∃ y w2, (execOp a.eval os).run P w = .halt y w2 := by
          unfold execOp
          rw [hsop]
          simp only [Sem.run_bind]
          generalize Sem.run P (Instr.storeAt st (a.eval sx) (a.eval sy)) w = r
          cases r with
          | ok y w2 => exact .inl ⟨w2, rfl⟩
          | halt y w2 => exact .inr ⟨y, w2, rfl⟩
        rcases hform with ⟨w2, hrun⟩ | ⟨y, w2, hrun⟩
        rotate_left
        · rw [hrun] at H2 ⊢
          cases y <;> simp only [Oper.uponIn] at H2 ⊢
          exact hQ _ _ _ _ _ H2
        rw [hrun] at H2 ⊢
        simp only [Oper.uponIn, hds] at H2 ⊢
        have ec : (x.setIfInBounds i true).setIfInBounds j true = (x.setIfInBounds j true).setIfInBounds i true := Array.setIfInBounds_comm _ _ (fun e => hne e)
        rw [ec] at H2
        have H3 := ih f (by omega) _ _ _ (by simpa using hx) H2
        have hlist : ∀ k, k ∈ Region.ready .any l.toArray (x.setIfInBounds j true) → k = i := by
          intro k hk
          obtain ⟨hk0, o, ho, hall⟩ := mem_ready.1 hk
          rw [List.getElem?_toArray] at ho
          have hkl := (List.getElem?_eq_some_iff.1 ho).1
          have hc := List.all_eq_true.1 hcov k (List.mem_range.2 hkl)
          rw [ho] at hc
          simp only [Bool.or_eq_true, beq_iff_eq] at hc
          rcases hc with ((hc | hc) | hc) | hc
          · exact hc
          · subst hc
            simp [Array.getD, hx, hkl] at hk0
          · obtain ⟨e, he, hb⟩ := List.any_eq_true.1 hc
            simp only [Bool.and_eq_true, beq_iff_eq] at hb
            have := bindS x hj e (by simpa using he) hb.1
            rw [hb.2] at this
            have := getD_set_true (i := j) this
            rw [getD_flip (by simpa [hx] using hkl) false true, hk0] at this
            cases this
          · obtain ⟨e, he, hb⟩ := List.any_eq_true.1 hc
            simp only [Bool.and_eq_true, beq_iff_eq] at hb
            have := hall e (by simpa using he) hb.1
            rw [hb.2, getD_set_ne false (Ne.symm hne), getD_flip (by omega) false true, hxi] at this
            cases this
        have hri2 := ready_mono (i := j) hri hne
        refine ⟨fun h0 => (by rw [h0] at hri2; cases hri2), fun k hk => ?_⟩
        obtain rfl := hlist k hk
        unfold wpOpIn
        rw [List.getElem?_toArray, hi]
        simp only [hwi, if_true]
        unfold Oper.wpIn
        rw [hsemI]
        refine ⟨fun f hf => trivial, ?_⟩
        rw [show a.put none undef = a from rfl, hu w2]
        exact H3
theorem region_lateR_lit {id : Nat} {a : Act} {w : World} (i s n : Nat) {l2 : List Oper} (hm : P.follows .mixedOrders = true) (hok : lateOK i s l = true) (hl : lateL i s l = l2) (hB : frontOK .any (l2.take n) (l2.drop n) = true) (hND : noDefer (l2.take n) = true)
    (hQ : ∀ (d : Option Tmp) v c a w, Q (.panic c) (a.put d v) w → Q (.panic c) a w)
    (h : wpM P .any l2.toArray w (fun a' F => ∀ b w', Cls w w' → (∀ x ∈ F, w.heap.size ≤ b x.1 ∧ blk w' (b x.1) = some (.cells x.2.1 x.2.2 (0, 0))) → (∀ x ∈ F, ∀ y ∈ F, x.1 ≠ y.1 → b x.1 ≠ b y.1) → wpListIn (Fence.wide.inRound lp) 0 P l2.toArray Q (l2.drop n) (a' b) w') (l2.take n) 0 (fun _ => a) []) :
    (Code.region id l.toArray true).wpIn (Fence.wide.inRound lp) 0 P Q a w := by
  subst hl
  have h1 := any_monoR hB hND h
  rw [lateL_len] at h1
  refine wpIn_region_any hm ?_
  rw [List.size_toArray]
  exact any_late hok hQ _ _ _ _ (by simp) h1
end
end Go.Proofs.Ytkfggilildiflaa

namespace Go.Proofs.Ytkfggilildiflaa
open Go.RowKit
theorem wp_range_plain {P : Program} {g : Operand} {ps : Array Tmp} {assign body : Code} {Q : Exit → Act → World → Prop} {a : Act} {w : World}
    {gf : Nat} {lb : Array Value} (hg : a.eval g = .func (.func gf) #[] lb) (eg : ∀ args w, (callFunc gf args).run P w = .ok (.enter gf args) w)
    {els : Nat → Array Value} {N : Option Nat} {R : List Nat} {W0 : World} (hit : IterAt P gf lb els N R W0) (hb0 : Below W0.heap.size W0 w) (hps : ∀ k, (els k).size = ps.size)
    (I : Nat → List Blk → Prop) (Ix : Code → List Blk → Prop) (M : Nat) (hM : N = none → ∀ k L, I k L → k < M)
    (L0 : List Blk) (h0 : I 0 L0) (hH : Holds w (objs L0)) (hR : ∀ b ∈ R, b < w.heap.size ∧ b ∉ L0.map (·.1)) (act1 : Nat → Act)
    (hassign : ∀ (l k : Nat) (L : List Blk) (W : World), I k L → In L0 w L W → ∀ K : Act → World → Prop, (∀ W', In L W L W' → K (act1 k) W') →
      assign.wpIn (Fence.wide.inRound l) 0 P (Exit.then K (fun _ _ _ => False)) { tmps := (ps.zip (els k)).foldl (fun t (p, v) => t.setIfInBounds p v) a.tmps, defers := [] } W)
    (hbody : ∀ (l k : Nat) (L : List Blk) (W : World), I k L → In L0 w L W → (∀ n, N = some n → k < n) → body.wpIn (Fence.wide.inRound l) 0 P (roundEnd (I (k + 1)) Ix L W) (act1 k) W)
    (hdone : ∀ (D n : Nat) (L : List Blk) (W : World), N = some n → I n L → In L0 w L W → W.heap[D]? = some (.deferred (some [])) → w.heap.size ≤ D → Q .normal { a with defers := { target := .collected D, args := #[] } :: a.defers } W)
    (hstop : ∀ (D : Nat) (c : Code) (L : List Blk) (W : World), Ix c L → In L0 w L W → W.heap[D]? = some (.deferred (some [])) → w.heap.size ≤ D → c.wp P Q { a with defers := { target := .collected D, args := #[] } :: a.defers } W) :
    (Code.rangeFunc g ps assign body).wp P Q a w := by
  refine wp_range2 hg eg hit hb0 hps I Ix M hM L0 h0 hH hR (fun k L L' a => L' = L ∧ a = act1 k) (fun l k L W hI hIn K hK => hassign l k L W hI hIn K fun W' hW => hK _ _ _ hW ⟨rfl, rfl⟩) ?_ hdone hstop
  rintro l k L L' a1 W hI ⟨rfl, rfl⟩ hIn hN
  exact hbody l k L' W hI hIn hN
/-- What came in is as it was, wherever a round stands. -/
theorem In.bytes {w0 w W : World} {L0 L : List Blk} (h : St w0 w L0) (h2 : In L0 w L W) {v : Value} {l : List UInt8} (hv : BytesAt w0 v l) : BytesAt W v l := hv.below (h.range h2).below
end Go.Proofs.Ytkfggilildiflaa

namespace Go.Proofs.Ytkfggilildiflaa
open Go.ChangeShapes Go.WideShapes Go.ChangeAt Go.RowKit
theorem postMR {P : Program} {fn : Func} {R : Ending → World → Prop} {a : Act} {w : World} {e : Exit} {D : Nat} (he : e = .ret ∨ e = .normal) (hd : a.defers = [{ target := .collected D, args := #[] }]) (hk : w.heap[D]? = some (.deferred (some [])))
    (h : bodyPost P fn R .ret { a with defers := [] } (w.putObj D (.deferred none))) : bodyPostM Fence.wide 0 P fn R e a w := by
  obtain ⟨_, v, hr, hR⟩ := h
  have key : LeavesInM Fence.wide 0 P fn a.tmps R a.defers .returning w := by
    rw [hd]
    exact ⟨by simp, .inl ⟨D, _, rfl, run_takeDeferred hk, v, hr, hR⟩⟩
  rcases he with rfl | rfl
  · exact key
  · exact key
theorem calls_of_marksR {P : Program} {f : FuncId} {fn : Func} {c : Code} {args : Array Value} {w : World} {R : Ending → World → Prop} (hf : P.funcs[f]? = some fn) (hb : fn.body = some c)
    (h : c.wp P (bodyPostM Fence.wide 0 P fn R) { tmps := args ++ Array.replicate (fn.ntmps - args.size) undef, defers := [] } w) : Calls P f args w R :=
  (callsIn_wide (n := 0)).1 (callsIn_of_wp_marks hf hb trivial (wpIn_wide.2 h))
end Go.Proofs.Ytkfggilildiflaa
