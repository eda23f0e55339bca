/-
  Laws that the claims of this seat use, of several texts in one: CopyG, Append2, EngB, Perm, AnyW, V12. No condition of their own.
-/
import Derived.Laws.Tables
import Derived.Test.YtkfggilildiflabJC0

namespace Go.Proofs.Ytkfggilildiflab
open Go.ChangeShapes Go.WideShapes Go.ChangeAt Go.RowKit
/-- What a copy's block holds. -/
def Kp (l : List UInt8) (cap : Nat) (cur : Array Value) : Prop := l.length + 2 ≤ cap ∧ cap ≤ maxLen ∧ cur.size = cap ∧ cur.toList.take (l.length + 2) = (l ++ [165, 90]).map bv
theorem Kp.bytes {l : List UInt8} {cap : Nat} {cur : Array Value} (h : Kp l cap cur) {w : World} {g : Nat} {t : TypeId} {fr : Nat × Nat} (hg : blk w g = some (.cells cur t fr)) : BytesAt w (.slice (some ⟨g, 0, none⟩) l.length cap) l := by
  obtain ⟨h1, h2, h3, h4⟩ := h
  refine ⟨_, cap, rfl, by omega, (fun h => by cases h), fun _ => ⟨g, 0, cur, _, _, rfl, hg, fun i x hi => ?_⟩⟩
  have h5 := congrArg (·[i]?) h4
  have hil : i < l.length := (List.getElem?_eq_some_iff.1 hi).1
  simp only [List.getElem?_take, List.getElem?_map] at h5
  rw [if_pos (by omega), List.getElem?_append_left hil, hi] at h5
  rw [Nat.zero_add]; simpa using h5
theorem copy_g (l : List UInt8) (v : Value) (w : World) (hv : BytesAt w v l) (hn : l.length ≤ 1000000000) : Calls Try.prog 14 #[v] w fun e w' =>
    ∃ ga gb cap cur, e = .returned (.slice (some ⟨w.heap.size + ga.n, 0, none⟩) l.length cap) ∧ Kp l cap cur ∧ w' = grow ((grow w ga).alloc (.cells cur 5)) gb := by
  refine (copy_any l v w hv hn).mono ?_
  rintro e w' ⟨g, cap, cur, rfl, h1, h2, h3, h4, h5, h6, h7⟩
  obtain ⟨gg, rfl⟩ := grow_of h7
  obtain ⟨ga, gb, he, rfl⟩ := grow_split h1 h4
  exact ⟨ga, gb, cap, cur, rfl, ⟨h2, h3, h5, h6⟩, he⟩
theorem kept_g (l : List UInt8) (cap : Nat) (cur : Array Value) (hK : Kp l cap cur) (g : Nat) (v : Value) (w : World) (hg : blk w g = some (.cells cur 5 (0, 0))) (hv : BytesAt w v l) (hn : l.length ≤ 1000000000) :
    Calls Try.prog 19 #[.slice (some ⟨g, 0, none⟩) l.length cap, v] w fun e w' => e = .returned (.bool true) ∧ Below w.heap.size w w' :=
  kept_any l g cap cur v w hg hK.2.2.1 hK.1 hK.2.2.2 hv hn hK.2.1
end Go.Proofs.Ytkfggilildiflab

namespace Go.Proofs.Ytkfggilildiflab
open Go.ChangeShapes Go.WideShapes Go.ChangeAt Go.RowKit
attribute [local irreducible] wpList wpListIn
section
variable {P : Program} {ops : Array Oper} {W : List Oper → Act → World → Prop} {o : Oper} {rest : List Oper} {a : Act} {w : World} {v : Value} {B : Nat} {H : World → List Blk → Prop} {L : List Blk}
theorem s_appendR {x y : Operand} {t e size bytes b n c m c2 i nm : Nat} {q : Addr} {cs : Array Value} {olds spare xs : List Value} (hs : Stp P ops W) (hH : Own B H) (hS : H w L) (hw : Region.wanted o (yielded ops a.tmps) = true)
    (hop : o.op = .call { callee := .builtin .append, args := #[x, y], argTypes := #[t, t] }) (hx : evO a x = some (.slice (some ⟨b, 0, none⟩) n c)) (hy : evO a y = some (.slice (some q) m c2)) (hT : SlT P t e size bytes)
    (hi : L[i]? = some (b, cs, e)) (hcs : cs.toList = olds ++ spare) (ho : olds.length = n * size) (hsp : spare.length = (c - n) * size) (hsrc : ∀ j v, xs[j]? = some v → w.cell? (q.add j) = some v) (hxs : xs.length = m * size) (hone : ∀ v ∈ xs, v.oneCell' = true)
    (hroom : n + m ≤ c) (hnm : n + m = nm)
    (hk : ∀ w', H w' (L.set i (b, (olds ++ xs ++ spare.drop xs.length).toArray, e)) → W rest (a.put o.dst (.slice (some ⟨b, 0, none⟩) nm c)) w') : W (o :: rest) a w := by
  subst hnm
  obtain ⟨ht, inf, z, hie, hz, hsz, hby, hzs, hpos⟩ := elemB_iff hT.is
  have hd : isDefer o = false := by unfold isDefer; rw [hop]
  have hb := hH.blk i hS hi
  have hcsz : cs.size = olds.length + spare.length := by rw [← Array.length_toList, hcs, List.length_append]
  have hfit : n * inf.size + xs.length ≤ cs.size := by
    rw [hcsz, hsz, ho, hsp, hxs]
    have : m * size ≤ (c - n) * size := Nat.mul_le_mul_right _ (by omega)
    omega
  have hr := run_append_room (P := P) w t o.type e inf ht hie b n c cs hb q m c2 xs (by rw [hsz]; exact hxs) hsrc hone hroom hfit
  refine hs.go hw hd (run_app hop hx hy hr) ?_
  have hrow : (cs.toList.take (n * inf.size) ++ xs ++ cs.toList.drop (n * inf.size + xs.length)).toArray = (olds ++ xs ++ spare.drop xs.length).toArray := by
    rw [hcs, hsz, ← ho, List.take_left, List.drop_append, Nat.add_sub_cancel_left, List.drop_of_length_le (by omega), List.nil_append]
  rw [hrow]
  exact hk _ (hH.setRow i (olds ++ xs ++ spare.drop xs.length).toArray hS hi)
theorem s_appendG {x y : Operand} {t e size bytes b n c m c2 i nm : Nat} {q : Addr} {cs : Array Value} {olds spare xs : List Value} (hs : Stp P ops W) (hH : Own B H) (hS : H w L) (hw : Region.wanted o (yielded ops a.tmps) = true)
    (hop : o.op = .call { callee := .builtin .append, args := #[x, y], argTypes := #[t, t] }) (hx : evO a x = some (.slice (some ⟨b, 0, none⟩) n c)) (hy : evO a y = some (.slice (some q) m c2)) (hT : SlT P t e size bytes)
    (hi : L[i]? = some (b, cs, e)) (hcs : cs.toList = olds ++ spare) (ho : olds.length = n * size) (_hnc : n ≤ c) (hsrc : ∀ j v, xs[j]? = some v → w.cell? (q.add j) = some v) (hxs : xs.length = m * size)
    (hmax : n + m ≤ maxLen ∧ (n + m) * bytes ≤ 140737488355328) (hroom : c < n + m) (hnm : n + m = nm)
    (hk : ∀ (b' c' : Nat) (spare' : List Value) (w' : World), nm ≤ c' → c' ≤ maxLen → spare'.length = (c' - nm) * size → H w' ((b', (olds ++ xs ++ spare').toArray, e) :: L) → W rest (a.put o.dst (.slice (some ⟨b', 0, none⟩) nm c')) w') : W (o :: rest) a w := by
  subst hnm
  obtain ⟨ht, inf, z, hie, hz, hsz, hby, hzs, hpos⟩ := elemB_iff hT.is
  have hd : isDefer o = false := by unfold isDefer; rw [hop]
  have hb := hH.blk i hS hi
  have hr := run_append_grow (P := P) (w := w) t o.type e inf z ht hie hz ⟨b, 0, none⟩ n c olds (by rw [hsz]; exact ho) (fun j u hu => by
    rw [addr_add, Nat.zero_add]
    refine (cell_of_row w b j cs e _ hb).trans ?_
    rw [← Array.getElem?_toList, hcs, List.getElem?_append_left (List.getElem?_eq_some_iff.1 hu).1, hu]) q m c2 xs (by rw [hsz]; exact hxs) hsrc (by omega) (by have := hmax.1; unfold maxLen at this; omega) (growslice_fits (by omega) (by rw [hby]; exact hmax.2))
  have hcap := grownCap_ge w (n + m) c e
  have hcm := grownCap_le_maxLen w (n + m) c e hmax.1
  refine hs.go hw hd (run_app hop hx hy hr) ?_
  generalize grownCap w (n + m) c e = c' at *
  have hcell : olds.toArray ++ xs.toArray ++ Builtin.zeroCells z.cells (c' - (n + m)) = (olds ++ xs ++ (Builtin.zeroCells z.cells (c' - (n + m))).toList).toArray := by
    apply Array.ext'; simp
  rw [hcell]
  have hS1 : H w.drew L := hH.call hS ⟨rfl, rfl, rfl, Nat.le_refl _, fun _ _ => rfl⟩
  have h2 := hH.alloc (olds ++ xs ++ (Builtin.zeroCells z.cells (c' - (n + m))).toList).toArray e hS1
  refine hk _ c' _ _ hcap hcm ?_ h2
  rw [Array.length_toList, size_zeroCells, hzs]
theorem r_appendN {x y : Operand} {t e size bytes n c : Nat} {p : Addr} (hop : o.op = .call { callee := .builtin .append, args := #[x, y], argTypes := #[t, t] }) (hx : evO a x = some (.slice (some p) n c)) (hy : evO a y = some (.slice none 0 0)) (hT : SlT P t e size bytes) (hnc : n ≤ c) : (execOp a.eval o).run P w = .ok (.value (.slice (some p) n c)) w := by
  obtain ⟨ht, inf, z, hie, hz, hsz, hby, hzs, hpos⟩ := elemB_iff hT.is
  exact run_app hop hx hy (by simp [Builtin.append_, run_underlying ht, sizeOf, typeInfo, hie, Builtin.lenOf, Builtin.firstCells, hnc, storeCells])
theorem r_convB {s t : TypeId} {x : Operand} {k ks : IntKind} {n : Int} (N : Nat) (hop : o.op = .convert s t x) (hx : evO a x = some (.int k n)) (hs : IntT P s ks) (ht : IntT P t .u8) (hn : n = (N : Int)) : (execOp a.eval o).run P w = .ok (.value (.int .u8 (((UInt8.ofNat N).toNat : Nat) : Int))) w := by
  have e : IntKind.u8.wrap n = (((UInt8.ofNat N).toNat : Nat) : Int) := by
    subst hn
    have h2 : (UInt8.ofNat N).toNat = N % 256 := by simp
    rw [h2, IntKind.wrap_u8]; omega
  unfold execOp; rw [hop]
  simp only [evO_eval hx, convert, Sem.run_bind, run_underlying hs.is, run_underlying ht.is, Result.andThen_ok, Conv.intToInt, e]
  rfl
end
set_option maxRecDepth 100000 in
set_option maxHeartbeats 1000000 in
theorem copy_x (l : List UInt8) (v : Value) (w0 : World) (hv : BytesAt w0 v l) (hn : l.length ≤ 140737488351232) : Calls Try.prog 14 #[v] w0 fun e w' =>
    ∃ g, e = .returned (.slice (some ⟨g, 0, none⟩) l.length (l.length + 2)) ∧ w0.heap.size ≤ g ∧ blk w' g = some (.cells (bvs (l ++ [165, 90])) 5 (0, 0)) ∧ Below w0.heap.size w0 w' := by
  obtain ⟨p, c, rfl, hc, hp0, hcell⟩ := id hv
  have hS := St.start w0
  go_enter Try.func14, Try.ntmps14
  repeat' (first | ((with_reducible refine cons_list ?_); first | ((first | refine g_skip stp_list ?_ | refine g_move stp_list ?_ | refine g_assign stp_list ?_ | refine g_load1 stp_list own_st hS ?_ | refine g_loadR stp_list own_st hS ?_ | refine g_indexAddr stp_list ?_ | refine g_indexAddrA stp_list ?_ | refine g_len stp_list ?_ | refine g_cap stp_list ?_ | refine g_extract stp_list ?_ | refine g_add stp_list ?_ | refine g_sub stp_list ?_ | refine g_mul stp_list ?_ | refine g_quo stp_list ?_ | refine g_rem stp_list ?_ | refine g_cmp_t stp_list ?_ | refine g_cmp_f stp_list ?_ | refine g_cmp stp_list (fun hc => ?_) (fun hc => ?_) | refine g_neqNil stp_list ?_ | refine g_neqNil0 stp_list ?_ | refine g_eqlNil stp_list ?_ | refine g_eqlNil0 stp_list ?_ | refine g_fieldAddr stp_list ?_ | refine g_field1 stp_list ?_ | refine g_fieldR stp_list ?_ | refine g_eqlSlNil stp_list ?_ | refine g_neqSlNil stp_list ?_ | refine g_makeInterface stp_list ?_ | refine g_makeFunc stp_list ?_ | refine g_conv stp_list ?_ | refine g_pick stp_list ?_ | refine g_not stp_list ?_ | refine g_slice stp_list ?_ | refine g_sliceA stp_list ?_ | refine g_sliceNil stp_list ?_) <;> refine put_in ?_) | ((first | refine g_alloc stp_list own_st hS ?_ | refine g_box stp_list own_st hS ?_ | refine g_build0 stp_list own_st hS ?_ | refine g_build stp_list own_st hS ?_ | refine g_make stp_list own_st hS ?_); clear hS; intro b w hS; refine put_in ?_) | ((first | refine g_store1 stp_list own_st hS ?_ | refine g_storeR stp_list own_st hS ?_); clear hS; intro w hS; refine put_in ?_)) | ((fail_if_success (with_reducible refine cons_list ?_)); first | go_step | go_step3 | rw [Exit.noGoto_normal] | rw [Exit.noGoto_ret] | rw [Exit.noGoto_exit]))
  rcases p with _ | q
  · have hc0 := hp0 rfl
    have hl : l = [] := List.eq_nil_of_length_eq_zero (by omega)
    subst hl
    subst hc0
    refine Stp.go stp_list (by rfl) (by rfl) (r_appendN (by rfl) (by rfl) (by rfl) (by infer_instance) (by omega)) ?_
    refine put_in ?_
    repeat' (first | ((with_reducible refine cons_list ?_); first | ((first | refine g_skip stp_list ?_ | refine g_move stp_list ?_ | refine g_assign stp_list ?_ | refine g_load1 stp_list own_st hS ?_ | refine g_loadR stp_list own_st hS ?_ | refine g_indexAddr stp_list ?_ | refine g_indexAddrA stp_list ?_ | refine g_len stp_list ?_ | refine g_cap stp_list ?_ | refine g_extract stp_list ?_ | refine g_add stp_list ?_ | refine g_sub stp_list ?_ | refine g_mul stp_list ?_ | refine g_quo stp_list ?_ | refine g_rem stp_list ?_ | refine g_cmp_t stp_list ?_ | refine g_cmp_f stp_list ?_ | refine g_cmp stp_list (fun hc => ?_) (fun hc => ?_) | refine g_neqNil stp_list ?_ | refine g_neqNil0 stp_list ?_ | refine g_eqlNil stp_list ?_ | refine g_eqlNil0 stp_list ?_ | refine g_fieldAddr stp_list ?_ | refine g_field1 stp_list ?_ | refine g_fieldR stp_list ?_ | refine g_eqlSlNil stp_list ?_ | refine g_neqSlNil stp_list ?_ | refine g_makeInterface stp_list ?_ | refine g_makeFunc stp_list ?_ | refine g_conv stp_list ?_ | refine g_pick stp_list ?_ | refine g_not stp_list ?_ | refine g_slice stp_list ?_ | refine g_sliceA stp_list ?_ | refine g_sliceNil stp_list ?_) <;> refine put_in ?_) | ((first | refine g_alloc stp_list own_st hS ?_ | refine g_box stp_list own_st hS ?_ | refine g_build0 stp_list own_st hS ?_ | refine g_build stp_list own_st hS ?_ | refine g_make stp_list own_st hS ?_); clear hS; intro b w hS; refine put_in ?_) | ((first | refine g_store1 stp_list own_st hS ?_ | refine g_storeR stp_list own_st hS ?_); clear hS; intro w hS; refine put_in ?_)) | ((fail_if_success (with_reducible refine cons_list ?_)); first | go_step | go_step3 | rw [Exit.noGoto_normal] | rw [Exit.noGoto_ret] | rw [Exit.noGoto_exit]))
    refine s_appendR (i := 1) stp_list own_st hS (by rfl) (by rfl) (by rfl) (by rfl) (by infer_instance) (by exact at_ 1 rfl) (olds := []) (spare := (zs 2).map bv) (by rfl) (by rfl) (by simp [zs_len]) (xs := [.int .u8 165, .int .u8 90]) (src_blk (hS.blk 0 rfl) (fun j v h => by rw [Nat.zero_add]; exact h)) (by rfl) (by intro v hv; simp only [List.mem_cons, List.not_mem_nil, or_false] at hv; rcases hv with rfl | rfl <;> rfl) (by simp) rfl ?_
    clear hS
    intro w hS
    refine put_in ?_
    repeat' (first | ((with_reducible refine cons_list ?_); first | ((first | refine g_skip stp_list ?_ | refine g_move stp_list ?_ | refine g_assign stp_list ?_ | refine g_load1 stp_list own_st hS ?_ | refine g_loadR stp_list own_st hS ?_ | refine g_indexAddr stp_list ?_ | refine g_indexAddrA stp_list ?_ | refine g_len stp_list ?_ | refine g_cap stp_list ?_ | refine g_extract stp_list ?_ | refine g_add stp_list ?_ | refine g_sub stp_list ?_ | refine g_mul stp_list ?_ | refine g_quo stp_list ?_ | refine g_rem stp_list ?_ | refine g_cmp_t stp_list ?_ | refine g_cmp_f stp_list ?_ | refine g_cmp stp_list (fun hc => ?_) (fun hc => ?_) | refine g_neqNil stp_list ?_ | refine g_neqNil0 stp_list ?_ | refine g_eqlNil stp_list ?_ | refine g_eqlNil0 stp_list ?_ | refine g_fieldAddr stp_list ?_ | refine g_field1 stp_list ?_ | refine g_fieldR stp_list ?_ | refine g_eqlSlNil stp_list ?_ | refine g_neqSlNil stp_list ?_ | refine g_makeInterface stp_list ?_ | refine g_makeFunc stp_list ?_ | refine g_conv stp_list ?_ | refine g_pick stp_list ?_ | refine g_not stp_list ?_ | refine g_slice stp_list ?_ | refine g_sliceA stp_list ?_ | refine g_sliceNil stp_list ?_) <;> refine put_in ?_) | ((first | refine g_alloc stp_list own_st hS ?_ | refine g_box stp_list own_st hS ?_ | refine g_build0 stp_list own_st hS ?_ | refine g_build stp_list own_st hS ?_ | refine g_make stp_list own_st hS ?_); clear hS; intro b w hS; refine put_in ?_) | ((first | refine g_store1 stp_list own_st hS ?_ | refine g_storeR stp_list own_st hS ?_); clear hS; intro w hS; refine put_in ?_)) | ((fail_if_success (with_reducible refine cons_list ?_)); first | go_step | go_step3 | rw [Exit.noGoto_normal] | rw [Exit.noGoto_ret] | rw [Exit.noGoto_exit]))
    go_ret
    refine ⟨_, rfl, hS.low 1 rfl, ?_, hS.below⟩
    have hb := hS.blk 1 rfl
    have e3 : ([] ++ [Value.int .u8 165, Value.int .u8 90] ++ List.drop [Value.int .u8 165, Value.int .u8 90].length ((zs 2).map bv)).toArray = bvs ([] ++ [165, 90]) := by
      unfold bvs zs
      simp
      exact ⟨rfl, rfl⟩
    rw [← e3]
    exact hb
  · refine s_appendR (i := 0) stp_list own_st hS (by rfl) (by rfl) (by rfl) (by rfl) (by infer_instance) (by exact at_ 0 rfl) (olds := []) (spare := (zs (l.length + 2)).map bv) (by rfl) (by rfl) (by rw [List.length_map, zs_len]; omega) (hv.below hS.below).srcs (by rw [List.length_map, Nat.mul_one]) (bv_one l) (by omega) (by (try conv => lhs; simp only [Int.toNat_natCast, Int.toNat_zero, Int.toNat_one, Int.reduceToNat, Int.toNat_natCast_add_one, Int.ofNat_eq_natCast, Nat.mul_one, Nat.one_mul, Nat.zero_add, Nat.add_zero, Nat.sub_zero, Nat.zero_mul, Nat.reduceAdd, Nat.reduceMul, Nat.reduceSub]); first | done | rfl) ?_
    clear hS
    intro w hS
    refine put_in ?_
    have e1 : List.drop (l.map bv).length ((zs (l.length + 2)).map bv) = (zs 2).map bv := by
      rw [List.length_map, ← List.map_drop]
      congr 1
      unfold zs
      rw [List.drop_replicate, Nat.add_sub_cancel_left]
    rw [e1] at hS
    have hS : St w0 w [(b, (l.map bv ++ (zs 2).map bv).toArray, 5)] := hS
    repeat' (first | ((with_reducible refine cons_list ?_); first | ((first | refine g_skip stp_list ?_ | refine g_move stp_list ?_ | refine g_assign stp_list ?_ | refine g_load1 stp_list own_st hS ?_ | refine g_loadR stp_list own_st hS ?_ | refine g_indexAddr stp_list ?_ | refine g_indexAddrA stp_list ?_ | refine g_len stp_list ?_ | refine g_cap stp_list ?_ | refine g_extract stp_list ?_ | refine g_add stp_list ?_ | refine g_sub stp_list ?_ | refine g_mul stp_list ?_ | refine g_quo stp_list ?_ | refine g_rem stp_list ?_ | refine g_cmp_t stp_list ?_ | refine g_cmp_f stp_list ?_ | refine g_cmp stp_list (fun hc => ?_) (fun hc => ?_) | refine g_neqNil stp_list ?_ | refine g_neqNil0 stp_list ?_ | refine g_eqlNil stp_list ?_ | refine g_eqlNil0 stp_list ?_ | refine g_fieldAddr stp_list ?_ | refine g_field1 stp_list ?_ | refine g_fieldR stp_list ?_ | refine g_eqlSlNil stp_list ?_ | refine g_neqSlNil stp_list ?_ | refine g_makeInterface stp_list ?_ | refine g_makeFunc stp_list ?_ | refine g_conv stp_list ?_ | refine g_pick stp_list ?_ | refine g_not stp_list ?_ | refine g_slice stp_list ?_ | refine g_sliceA stp_list ?_ | refine g_sliceNil stp_list ?_) <;> refine put_in ?_) | ((first | refine g_alloc stp_list own_st hS ?_ | refine g_box stp_list own_st hS ?_ | refine g_build0 stp_list own_st hS ?_ | refine g_build stp_list own_st hS ?_ | refine g_make stp_list own_st hS ?_); clear hS; intro b w hS; refine put_in ?_) | ((first | refine g_store1 stp_list own_st hS ?_ | refine g_storeR stp_list own_st hS ?_); clear hS; intro w hS; refine put_in ?_)) | ((fail_if_success (with_reducible refine cons_list ?_)); first | go_step | go_step3 | rw [Exit.noGoto_normal] | rw [Exit.noGoto_ret] | rw [Exit.noGoto_exit]))
    refine s_appendR (i := 1) stp_list own_st hS (by rfl) (by rfl) (by rfl) (by rfl) (by infer_instance) (by exact at_ 1 rfl) (olds := l.map bv) (spare := (zs 2).map bv) (by rfl) (by rw [List.length_map, Nat.mul_one]) (by rw [List.length_map, zs_len]; omega) (xs := [.int .u8 165, .int .u8 90]) (src_blk (hS.blk 0 rfl) (fun j v h => by rw [Nat.zero_add]; exact h)) (by rfl) (by intro v hv; simp only [List.mem_cons, List.not_mem_nil, or_false] at hv; rcases hv with rfl | rfl <;> rfl) (by omega) rfl ?_
    clear hS
    intro w hS
    refine put_in ?_
    repeat' (first | ((with_reducible refine cons_list ?_); first | ((first | refine g_skip stp_list ?_ | refine g_move stp_list ?_ | refine g_assign stp_list ?_ | refine g_load1 stp_list own_st hS ?_ | refine g_loadR stp_list own_st hS ?_ | refine g_indexAddr stp_list ?_ | refine g_indexAddrA stp_list ?_ | refine g_len stp_list ?_ | refine g_cap stp_list ?_ | refine g_extract stp_list ?_ | refine g_add stp_list ?_ | refine g_sub stp_list ?_ | refine g_mul stp_list ?_ | refine g_quo stp_list ?_ | refine g_rem stp_list ?_ | refine g_cmp_t stp_list ?_ | refine g_cmp_f stp_list ?_ | refine g_cmp stp_list (fun hc => ?_) (fun hc => ?_) | refine g_neqNil stp_list ?_ | refine g_neqNil0 stp_list ?_ | refine g_eqlNil stp_list ?_ | refine g_eqlNil0 stp_list ?_ | refine g_fieldAddr stp_list ?_ | refine g_field1 stp_list ?_ | refine g_fieldR stp_list ?_ | refine g_eqlSlNil stp_list ?_ | refine g_neqSlNil stp_list ?_ | refine g_makeInterface stp_list ?_ | refine g_makeFunc stp_list ?_ | refine g_conv stp_list ?_ | refine g_pick stp_list ?_ | refine g_not stp_list ?_ | refine g_slice stp_list ?_ | refine g_sliceA stp_list ?_ | refine g_sliceNil stp_list ?_) <;> refine put_in ?_) | ((first | refine g_alloc stp_list own_st hS ?_ | refine g_box stp_list own_st hS ?_ | refine g_build0 stp_list own_st hS ?_ | refine g_build stp_list own_st hS ?_ | refine g_make stp_list own_st hS ?_); clear hS; intro b w hS; refine put_in ?_) | ((first | refine g_store1 stp_list own_st hS ?_ | refine g_storeR stp_list own_st hS ?_); clear hS; intro w hS; refine put_in ?_)) | ((fail_if_success (with_reducible refine cons_list ?_)); first | go_step | go_step3 | rw [Exit.noGoto_normal] | rw [Exit.noGoto_ret] | rw [Exit.noGoto_exit]))
    go_ret
    refine ⟨_, rfl, hS.low 1 rfl, ?_, hS.below⟩
    have hb := hS.blk 1 rfl
    have e3 : (l.map bv ++ [Value.int .u8 165, Value.int .u8 90] ++ List.drop [Value.int .u8 165, Value.int .u8 90].length ((zs 2).map bv)).toArray = bvs (l ++ [165, 90]) := by
      unfold bvs zs
      simp
      exact ⟨rfl, rfl⟩
    rw [← e3]
    exact hb
/-- The bytes of a pattern. -/
def pb (k j : Nat) : UInt8 := UInt8.ofNat (29 * k + 5 * j + 3)
theorem r_convP {P : Program} {o : Oper} {a : Act} {w : World} {s t : TypeId} {x : Operand} {k ks : IntKind} {n : Int} (K J : Nat) (hop : o.op = .convert s t x) (hx : evO a x = some (.int k n)) (hs : IntT P s ks) (ht : IntT P t .u8) (hn : n = ((29 * K + 5 * J + 3 : Nat) : Int)) : (execOp a.eval o).run P w = .ok (.value (.int .u8 (((pb K J).toNat : Nat) : Int))) w := r_convB _ hop hx hs ht hn
def pat (k n : Nat) : List UInt8 := (List.range n).map (pb k)
theorem pat_len (k n : Nat) : (pat k n).length = n := by simp [pat]
theorem pat_zero (k : Nat) : pat k 0 = [] := rfl
theorem pat_succ (k n : Nat) : pat k (n + 1) = pat k n ++ [pb k n] := by simp [pat, List.range_succ]
theorem pat_get (k n j : Nat) (h : j < n) : (pat k n).getD j 0 = pb k j := by
  rw [List.getD_eq_getElem?_getD, List.getElem?_eq_getElem (by rw [pat_len]; exact h)]
  simp [pat]
theorem pat_mark (k j : Nat) (d : Value) (D : List Value) : ((pat k j).map bv ++ d :: D).set j (.int .u8 (((pb k j).toNat : Nat) : Int)) = (pat k (j + 1)).map bv ++ D := by
  rw [pat_succ, List.map_append, List.set_append_right _ _ (by rw [List.length_map, pat_len]; omega), List.length_map, pat_len, Nat.sub_self, List.set_cons_zero, List.append_assoc]
  rfl
def slLen : Value → Nat
  | .slice _ n _ => n
  | _ => 0
attribute [irreducible] pat pb
end Go.Proofs.Ytkfggilildiflab

namespace Go.Proofs.Ytkfggilildiflab
open Go.RowKit
attribute [local irreducible] wpList wpListIn
/-- Of a struct type: where its fields lie and how many cells they have, and its noughts. -/
def stT (P : Program) (t : TypeId) : Option (List (Nat × Nat) × Array Value) := match P.info? t, P.underlying t with
  | some it, some (.struct fields) => (match it.zero, fields.toList.mapM (fun f => (P.info? f.type).map fun i => (f.offset, i.size)) with
    | some z, some places => some (places, z.cells)
    | _, _ => none)
  | _, _ => none
class StT (P : Program) (t : TypeId) (pl : outParam (List (Nat × Nat))) (z : outParam (List Value)) : Prop where
  is : stT P t = some (pl, z.toArray)
/-- Of an array type: how many cells its elements have, and its noughts. -/
def atT (P : Program) (t : TypeId) : Option (Nat × Array Value) := match P.info? t, P.underlying t with
  | some it, some (.array _ e) => (match it.zero, P.info? e with
    | some z, some ie => some (ie.size, z.cells)
    | _, _ => none)
  | _, _ => none
class AtT (P : Program) (t : TypeId) (n : outParam Nat) (z : outParam (List Value)) : Prop where
  is : atT P t = some (n, z.toArray)
def evp (a : Act) : List (Nat × Operand) → Option (List (Nat × Value))
  | [] => some []
  | (i, x) :: l => match evO a x, evp a l with
    | some v, some vs => some ((i, v) :: vs)
    | _, _ => none
theorem evp_eval {a : Act} : ∀ {l : List (Nat × Operand)} {vs : List (Nat × Value)}, evp a l = some vs → l.map (fun y => (y.1, a.eval y.2)) = vs
  | [], vs, h => by simp only [evp, Option.some.injEq] at h; exact h
  | (i, x) :: l, vs, h => by
    simp only [evp] at h
    split at h
    · rename_i v vs' h1 h2
      simp only [Option.some.injEq] at h
      subst h
      simp only [List.map_cons, evO_eval h1, evp_eval h2]
    · cases h
section
variable {P : Program} {ops : Array Oper} {W : List Oper → Act → World → Prop} {o : Oper} {rest : List Oper} {a : Act} {w : World} {v : Value} {C : World → Prop} {B : Nat} {H : World → List Blk → Prop} {L : List Blk}
theorem built_st {t : TypeId} {pl : List (Nat × Nat)} {z : List Value} (hT : StT P t pl z) {vs : List (Nat × Value)} {cs : Array Value} (hc : Instr.fill (pl.toArray[·]?) z.toArray vs = some cs) : P.built t vs = some cs := by
  have h := hT.is
  unfold stT at h
  unfold Program.built
  split at h
  · next it fields h1 h2 =>
    split at h
    · next zz places h3 h4 =>
      simp only [Option.some.injEq, Prod.mk.injEq] at h
      obtain ⟨rfl, h5⟩ := h
      simp only [h1, h2, h3, h4, h5]
      exact hc
    · cases h
  · cases h
theorem built_at {t : TypeId} {n : Nat} {z : List Value} (hT : AtT P t n z) {vs : List (Nat × Value)} {cs : Array Value} (hc : Instr.fill (fun i => some (i * n, n)) z.toArray vs = some cs) : P.built t vs = some cs := by
  have h := hT.is
  unfold atT at h
  unfold Program.built
  split at h
  · next it m e h1 h2 =>
    split at h
    · next zz ie h3 h4 =>
      simp only [Option.some.injEq, Prod.mk.injEq] at h
      obtain ⟨rfl, h5⟩ := h
      simp only [h1, h2, h3, h4, h5]
      exact hc
    · cases h
  · cases h
/-- What a literal's cells are, part by part. -/
inductive FillS (place : Nat → Option (Nat × Nat)) : List Value → List (Nat × Value) → List Value → Prop
  | nil {z : List Value} : FillS place z [] z
  | one {z z' cs : List Value} {i off : Nat} {v : Value} {r : List (Nat × Value)} (hp : place i = some (off, 1)) (hv : v.oneCell' = true) (ho : off < z.length) (hz : z.set off v = z') (hr : FillS place z' r cs) : FillS place z ((i, v) :: r) cs
  | row {z z' cs : List Value} {i off n : Nat} {vs : Array Value} {r : List (Nat × Value)} (hp : place i = some (off, n)) (hv : csz vs = n) (ho : off + n ≤ z.length) (hz : z.take off ++ vs.toList ++ z.drop (off + n) = z') (hr : FillS place z' r cs) : FillS place z ((i, .agg vs) :: r) cs
theorem fold_paste (vs : List Value) : ∀ (off k : Nat) (z : List Value), off + k + vs.length ≤ z.length → (vs.zipIdx k).foldl (fun (cs : Array Value) (x : Value × Nat) => cs.setIfInBounds (off + x.2) x.1) z.toArray = (z.take (off + k) ++ vs ++ z.drop (off + k + vs.length)).toArray := by
  induction vs with
  | nil => intro off k z h; simp
  | cons v vs ih =>
    intro off k z h
    simp only [List.length_cons] at h
    rw [List.zipIdx_cons, List.foldl_cons]
    simp only [List.setIfInBounds_toArray]
    rw [ih off (k + 1) _ (by simp; omega)]
    congr 1
    rw [show off + (k + 1) = off + k + 1 by omega, List.take_set, List.drop_set, if_pos (by omega), List.length_cons, show off + k + 1 + vs.length = off + k + (vs.length + 1) by omega]
    congr 1
    apply List.ext_getElem?
    intro j
    simp only [List.getElem?_append, List.length_set, List.length_take, List.getElem?_set, List.getElem?_take, List.length_cons]
    by_cases h1 : j < off + k
    · simp [h1, show j < min (off + k + 1) z.length by omega, show j < min (off + k) z.length by omega, show off + k ≠ j by omega, show j < off + k + 1 by omega]
    · by_cases h2 : j = off + k
      · subst h2
        simp [show off + k < min (off + k + 1) z.length by omega, show ¬ off + k < min (off + k) z.length by omega, show min (off + k) z.length = off + k by omega]
      · simp [show ¬ j < min (off + k + 1) z.length by omega, show ¬ j < min (off + k) z.length by omega, show min (off + k) z.length = off + k by omega, show min (off + k + 1) z.length = off + k + 1 by omega]
        rw [show j - (off + k) = (j - (off + k + 1)) + 1 by omega, List.getElem?_cons_succ, if_neg (by omega), if_neg (by omega)]
theorem fill_of {place : Nat → Option (Nat × Nat)} {z cs : List Value} {vs : List (Nat × Value)} (h : FillS place z vs cs) : Instr.fill place z.toArray vs = some cs.toArray := by
  induction h with
  | nil => rfl
  | @one z z' cs i off v r hp hv ho hz hr ih =>
    unfold Instr.fill
    rw [hp]
    have hc : v.cells = #[v] := by cases v <;> first | rfl | (simp [Value.oneCell'] at hv)
    simp only [hc]
    rw [if_neg (by simp; omega)]
    subst hz
    rw [← ih]
    congr 1
    simp
  | @row z z' cs i off n ws r hp hv ho hz hr ih =>
    unfold Instr.fill
    rw [hp]
    have hc : (Value.agg ws).cells = ws := rfl
    have hs : ws.size = n := hv
    simp only [hc]
    rw [if_neg (by simp [hs]; omega)]
    subst hz
    rw [← ih]
    congr 1
    have := fold_paste ws.toList off 0 z (by simp [hs]; exact ho)
    rw [← Array.foldl_toList, Array.toList_zipIdx]
    simp only [Nat.add_zero, Array.length_toList, hs] at this ⊢
    exact this
theorem r_built {t : TypeId} {parts : Array (Nat × Operand)} {vs : List (Nat × Value)} {cs : Array Value} (hop : o.op = .build t parts) (hp : evp a parts.toList = some vs) (hb : P.built t vs = some cs) : (execOp a.eval o).run P w = .ok (.value (.agg cs)) w := by
  unfold execOp; rw [hop]
  have e1 : (parts.map fun (i, x) => (i, a.eval x)).toList = vs := by
    rw [Array.toList_map]; exact evp_eval hp
  have hr := Go.run_build (P := P) w t (parts.map fun (i, x) => (i, a.eval x)) cs (by rw [e1]; exact hb)
  simp only [Sem.run_bind, hr, Result.andThen_ok]
  rfl
theorem g_builtS {t : TypeId} {parts : Array (Nat × Operand)} {vs : List (Nat × Value)} {cs : List Value} {pl : List (Nat × Nat)} {z : List Value} (hStp : Stp P ops W) (hk : W rest (a.put o.dst (.agg cs.toArray)) w) (hop : o.op = .build t parts := by rfl) (hp : evp a parts.toList = some vs := by rfl) (hT : StT P t pl z := by infer_instance) (hc : FillS (pl.toArray[·]?) z vs cs := by first | exact FillS.nil | exact FillS.one (by rfl) (by rfl) (by (try simp only [List.length_append, List.length_set, List.length_cons, List.length_nil]); first | done | decide | omega) (by (try conv => lhs; simp only [List.set_cons_zero, List.set_cons_succ]); first | done | rfl) FillS.nil | exact FillS.one (by rfl) (by rfl) (by (try simp only [List.length_append, List.length_set, List.length_cons, List.length_nil]); first | done | decide | omega) (by (try conv => lhs; simp only [List.set_cons_zero, List.set_cons_succ]); first | done | rfl) (FillS.one (by rfl) (by rfl) (by (try simp only [List.length_append, List.length_set, List.length_cons, List.length_nil]); first | done | decide | omega) (by (try conv => lhs; simp only [List.set_cons_zero, List.set_cons_succ]); first | done | rfl) FillS.nil) | exact FillS.one (by rfl) (by rfl) (by (try simp only [List.length_append, List.length_set, List.length_cons, List.length_nil]); first | done | decide | omega) (by (try conv => lhs; simp only [List.set_cons_zero, List.set_cons_succ]); first | done | rfl) (FillS.one (by rfl) (by rfl) (by (try simp only [List.length_append, List.length_set, List.length_cons, List.length_nil]); first | done | decide | omega) (by (try conv => lhs; simp only [List.set_cons_zero, List.set_cons_succ]); first | done | rfl) (FillS.one (by rfl) (by rfl) (by (try simp only [List.length_append, List.length_set, List.length_cons, List.length_nil]); first | done | decide | omega) (by (try conv => lhs; simp only [List.set_cons_zero, List.set_cons_succ]); first | done | rfl) FillS.nil)) | exact FillS.one (by rfl) (by rfl) (by (try simp only [List.length_append, List.length_set, List.length_cons, List.length_nil]); first | done | decide | omega) (by (try conv => lhs; simp only [List.set_cons_zero, List.set_cons_succ]); first | done | rfl) (FillS.one (by rfl) (by rfl) (by (try simp only [List.length_append, List.length_set, List.length_cons, List.length_nil]); first | done | decide | omega) (by (try conv => lhs; simp only [List.set_cons_zero, List.set_cons_succ]); first | done | rfl) (FillS.one (by rfl) (by rfl) (by (try simp only [List.length_append, List.length_set, List.length_cons, List.length_nil]); first | done | decide | omega) (by (try conv => lhs; simp only [List.set_cons_zero, List.set_cons_succ]); first | done | rfl) (FillS.one (by rfl) (by rfl) (by (try simp only [List.length_append, List.length_set, List.length_cons, List.length_nil]); first | done | decide | omega) (by (try conv => lhs; simp only [List.set_cons_zero, List.set_cons_succ]); first | done | rfl) FillS.nil))) | exact FillS.one (by rfl) (by rfl) (by (try simp only [List.length_append, List.length_set, List.length_cons, List.length_nil]); first | done | decide | omega) (by (try conv => lhs; simp only [List.set_cons_zero, List.set_cons_succ]); first | done | rfl) (FillS.one (by rfl) (by rfl) (by (try simp only [List.length_append, List.length_set, List.length_cons, List.length_nil]); first | done | decide | omega) (by (try conv => lhs; simp only [List.set_cons_zero, List.set_cons_succ]); first | done | rfl) (FillS.one (by rfl) (by rfl) (by (try simp only [List.length_append, List.length_set, List.length_cons, List.length_nil]); first | done | decide | omega) (by (try conv => lhs; simp only [List.set_cons_zero, List.set_cons_succ]); first | done | rfl) (FillS.one (by rfl) (by rfl) (by (try simp only [List.length_append, List.length_set, List.length_cons, List.length_nil]); first | done | decide | omega) (by (try conv => lhs; simp only [List.set_cons_zero, List.set_cons_succ]); first | done | rfl) (FillS.one (by rfl) (by rfl) (by (try simp only [List.length_append, List.length_set, List.length_cons, List.length_nil]); first | done | decide | omega) (by (try conv => lhs; simp only [List.set_cons_zero, List.set_cons_succ]); first | done | rfl) FillS.nil)))) | exact FillS.one (by rfl) (by rfl) (by (try simp only [List.length_append, List.length_set, List.length_cons, List.length_nil]); first | done | decide | omega) (by (try conv => lhs; simp only [List.set_cons_zero, List.set_cons_succ]); first | done | rfl) (FillS.one (by rfl) (by rfl) (by (try simp only [List.length_append, List.length_set, List.length_cons, List.length_nil]); first | done | decide | omega) (by (try conv => lhs; simp only [List.set_cons_zero, List.set_cons_succ]); first | done | rfl) (FillS.one (by rfl) (by rfl) (by (try simp only [List.length_append, List.length_set, List.length_cons, List.length_nil]); first | done | decide | omega) (by (try conv => lhs; simp only [List.set_cons_zero, List.set_cons_succ]); first | done | rfl) (FillS.one (by rfl) (by rfl) (by (try simp only [List.length_append, List.length_set, List.length_cons, List.length_nil]); first | done | decide | omega) (by (try conv => lhs; simp only [List.set_cons_zero, List.set_cons_succ]); first | done | rfl) (FillS.one (by rfl) (by rfl) (by (try simp only [List.length_append, List.length_set, List.length_cons, List.length_nil]); first | done | decide | omega) (by (try conv => lhs; simp only [List.set_cons_zero, List.set_cons_succ]); first | done | rfl) (FillS.one (by rfl) (by rfl) (by (try simp only [List.length_append, List.length_set, List.length_cons, List.length_nil]); first | done | decide | omega) (by (try conv => lhs; simp only [List.set_cons_zero, List.set_cons_succ]); first | done | rfl) FillS.nil)))))) (hw : Region.wanted o (yielded ops a.tmps) = true := by rfl) (hd : isDefer o = false := by rfl) : W (o :: rest) a w := hStp.go hw hd (r_built hop hp (built_st hT (fill_of hc))) hk
theorem g_builtA {t : TypeId} {parts : Array (Nat × Operand)} {vs : List (Nat × Value)} {cs : List Value} {n : Nat} {z : List Value} (hStp : Stp P ops W) (hk : W rest (a.put o.dst (.agg cs.toArray)) w) (hop : o.op = .build t parts := by rfl) (hp : evp a parts.toList = some vs := by rfl) (hT : AtT P t n z := by infer_instance) (hc : FillS (fun i => some (i * n, n)) z vs cs := by first | exact FillS.nil | exact FillS.one (by rfl) (by rfl) (by (try simp only [List.length_append, List.length_set, List.length_cons, List.length_nil]); first | done | decide | omega) (by (try conv => lhs; simp only [List.set_cons_zero, List.set_cons_succ]); first | done | rfl) FillS.nil | exact FillS.one (by rfl) (by rfl) (by (try simp only [List.length_append, List.length_set, List.length_cons, List.length_nil]); first | done | decide | omega) (by (try conv => lhs; simp only [List.set_cons_zero, List.set_cons_succ]); first | done | rfl) (FillS.one (by rfl) (by rfl) (by (try simp only [List.length_append, List.length_set, List.length_cons, List.length_nil]); first | done | decide | omega) (by (try conv => lhs; simp only [List.set_cons_zero, List.set_cons_succ]); first | done | rfl) FillS.nil) | exact FillS.one (by rfl) (by rfl) (by (try simp only [List.length_append, List.length_set, List.length_cons, List.length_nil]); first | done | decide | omega) (by (try conv => lhs; simp only [List.set_cons_zero, List.set_cons_succ]); first | done | rfl) (FillS.one (by rfl) (by rfl) (by (try simp only [List.length_append, List.length_set, List.length_cons, List.length_nil]); first | done | decide | omega) (by (try conv => lhs; simp only [List.set_cons_zero, List.set_cons_succ]); first | done | rfl) (FillS.one (by rfl) (by rfl) (by (try simp only [List.length_append, List.length_set, List.length_cons, List.length_nil]); first | done | decide | omega) (by (try conv => lhs; simp only [List.set_cons_zero, List.set_cons_succ]); first | done | rfl) FillS.nil)) | exact FillS.one (by rfl) (by rfl) (by (try simp only [List.length_append, List.length_set, List.length_cons, List.length_nil]); first | done | decide | omega) (by (try conv => lhs; simp only [List.set_cons_zero, List.set_cons_succ]); first | done | rfl) (FillS.one (by rfl) (by rfl) (by (try simp only [List.length_append, List.length_set, List.length_cons, List.length_nil]); first | done | decide | omega) (by (try conv => lhs; simp only [List.set_cons_zero, List.set_cons_succ]); first | done | rfl) (FillS.one (by rfl) (by rfl) (by (try simp only [List.length_append, List.length_set, List.length_cons, List.length_nil]); first | done | decide | omega) (by (try conv => lhs; simp only [List.set_cons_zero, List.set_cons_succ]); first | done | rfl) (FillS.one (by rfl) (by rfl) (by (try simp only [List.length_append, List.length_set, List.length_cons, List.length_nil]); first | done | decide | omega) (by (try conv => lhs; simp only [List.set_cons_zero, List.set_cons_succ]); first | done | rfl) FillS.nil))) | exact FillS.one (by rfl) (by rfl) (by (try simp only [List.length_append, List.length_set, List.length_cons, List.length_nil]); first | done | decide | omega) (by (try conv => lhs; simp only [List.set_cons_zero, List.set_cons_succ]); first | done | rfl) (FillS.one (by rfl) (by rfl) (by (try simp only [List.length_append, List.length_set, List.length_cons, List.length_nil]); first | done | decide | omega) (by (try conv => lhs; simp only [List.set_cons_zero, List.set_cons_succ]); first | done | rfl) (FillS.one (by rfl) (by rfl) (by (try simp only [List.length_append, List.length_set, List.length_cons, List.length_nil]); first | done | decide | omega) (by (try conv => lhs; simp only [List.set_cons_zero, List.set_cons_succ]); first | done | rfl) (FillS.one (by rfl) (by rfl) (by (try simp only [List.length_append, List.length_set, List.length_cons, List.length_nil]); first | done | decide | omega) (by (try conv => lhs; simp only [List.set_cons_zero, List.set_cons_succ]); first | done | rfl) (FillS.one (by rfl) (by rfl) (by (try simp only [List.length_append, List.length_set, List.length_cons, List.length_nil]); first | done | decide | omega) (by (try conv => lhs; simp only [List.set_cons_zero, List.set_cons_succ]); first | done | rfl) FillS.nil)))) | exact FillS.one (by rfl) (by rfl) (by (try simp only [List.length_append, List.length_set, List.length_cons, List.length_nil]); first | done | decide | omega) (by (try conv => lhs; simp only [List.set_cons_zero, List.set_cons_succ]); first | done | rfl) (FillS.one (by rfl) (by rfl) (by (try simp only [List.length_append, List.length_set, List.length_cons, List.length_nil]); first | done | decide | omega) (by (try conv => lhs; simp only [List.set_cons_zero, List.set_cons_succ]); first | done | rfl) (FillS.one (by rfl) (by rfl) (by (try simp only [List.length_append, List.length_set, List.length_cons, List.length_nil]); first | done | decide | omega) (by (try conv => lhs; simp only [List.set_cons_zero, List.set_cons_succ]); first | done | rfl) (FillS.one (by rfl) (by rfl) (by (try simp only [List.length_append, List.length_set, List.length_cons, List.length_nil]); first | done | decide | omega) (by (try conv => lhs; simp only [List.set_cons_zero, List.set_cons_succ]); first | done | rfl) (FillS.one (by rfl) (by rfl) (by (try simp only [List.length_append, List.length_set, List.length_cons, List.length_nil]); first | done | decide | omega) (by (try conv => lhs; simp only [List.set_cons_zero, List.set_cons_succ]); first | done | rfl) (FillS.one (by rfl) (by rfl) (by (try simp only [List.length_append, List.length_set, List.length_cons, List.length_nil]); first | done | decide | omega) (by (try conv => lhs; simp only [List.set_cons_zero, List.set_cons_succ]); first | done | rfl) FillS.nil)))))) (hw : Region.wanted o (yielded ops a.tmps) = true := by rfl) (hd : isDefer o = false := by rfl) : W (o :: rest) a w := hStp.go hw hd (r_built hop hp (built_at hT (fill_of hc))) hk
theorem q_builtS {t : TypeId} {parts : Array (Nat × Operand)} {vs : List (Nat × Value)} {cs : List Value} {pl : List (Nat × Nat)} {z : List Value} (hop : o.op = .build t parts := by rfl) (hp : evp a parts.toList = some vs := by rfl) (hT : StT P t pl z := by infer_instance) (hc : FillS (pl.toArray[·]?) z vs cs := by first | exact FillS.nil | exact FillS.one (by rfl) (by rfl) (by (try simp only [List.length_append, List.length_set, List.length_cons, List.length_nil]); first | done | decide | omega) (by (try conv => lhs; simp only [List.set_cons_zero, List.set_cons_succ]); first | done | rfl) FillS.nil | exact FillS.one (by rfl) (by rfl) (by (try simp only [List.length_append, List.length_set, List.length_cons, List.length_nil]); first | done | decide | omega) (by (try conv => lhs; simp only [List.set_cons_zero, List.set_cons_succ]); first | done | rfl) (FillS.one (by rfl) (by rfl) (by (try simp only [List.length_append, List.length_set, List.length_cons, List.length_nil]); first | done | decide | omega) (by (try conv => lhs; simp only [List.set_cons_zero, List.set_cons_succ]); first | done | rfl) FillS.nil) | exact FillS.one (by rfl) (by rfl) (by (try simp only [List.length_append, List.length_set, List.length_cons, List.length_nil]); first | done | decide | omega) (by (try conv => lhs; simp only [List.set_cons_zero, List.set_cons_succ]); first | done | rfl) (FillS.one (by rfl) (by rfl) (by (try simp only [List.length_append, List.length_set, List.length_cons, List.length_nil]); first | done | decide | omega) (by (try conv => lhs; simp only [List.set_cons_zero, List.set_cons_succ]); first | done | rfl) (FillS.one (by rfl) (by rfl) (by (try simp only [List.length_append, List.length_set, List.length_cons, List.length_nil]); first | done | decide | omega) (by (try conv => lhs; simp only [List.set_cons_zero, List.set_cons_succ]); first | done | rfl) FillS.nil)) | exact FillS.one (by rfl) (by rfl) (by (try simp only [List.length_append, List.length_set, List.length_cons, List.length_nil]); first | done | decide | omega) (by (try conv => lhs; simp only [List.set_cons_zero, List.set_cons_succ]); first | done | rfl) (FillS.one (by rfl) (by rfl) (by (try simp only [List.length_append, List.length_set, List.length_cons, List.length_nil]); first | done | decide | omega) (by (try conv => lhs; simp only [List.set_cons_zero, List.set_cons_succ]); first | done | rfl) (FillS.one (by rfl) (by rfl) (by (try simp only [List.length_append, List.length_set, List.length_cons, List.length_nil]); first | done | decide | omega) (by (try conv => lhs; simp only [List.set_cons_zero, List.set_cons_succ]); first | done | rfl) (FillS.one (by rfl) (by rfl) (by (try simp only [List.length_append, List.length_set, List.length_cons, List.length_nil]); first | done | decide | omega) (by (try conv => lhs; simp only [List.set_cons_zero, List.set_cons_succ]); first | done | rfl) FillS.nil))) | exact FillS.one (by rfl) (by rfl) (by (try simp only [List.length_append, List.length_set, List.length_cons, List.length_nil]); first | done | decide | omega) (by (try conv => lhs; simp only [List.set_cons_zero, List.set_cons_succ]); first | done | rfl) (FillS.one (by rfl) (by rfl) (by (try simp only [List.length_append, List.length_set, List.length_cons, List.length_nil]); first | done | decide | omega) (by (try conv => lhs; simp only [List.set_cons_zero, List.set_cons_succ]); first | done | rfl) (FillS.one (by rfl) (by rfl) (by (try simp only [List.length_append, List.length_set, List.length_cons, List.length_nil]); first | done | decide | omega) (by (try conv => lhs; simp only [List.set_cons_zero, List.set_cons_succ]); first | done | rfl) (FillS.one (by rfl) (by rfl) (by (try simp only [List.length_append, List.length_set, List.length_cons, List.length_nil]); first | done | decide | omega) (by (try conv => lhs; simp only [List.set_cons_zero, List.set_cons_succ]); first | done | rfl) (FillS.one (by rfl) (by rfl) (by (try simp only [List.length_append, List.length_set, List.length_cons, List.length_nil]); first | done | decide | omega) (by (try conv => lhs; simp only [List.set_cons_zero, List.set_cons_succ]); first | done | rfl) FillS.nil)))) | exact FillS.one (by rfl) (by rfl) (by (try simp only [List.length_append, List.length_set, List.length_cons, List.length_nil]); first | done | decide | omega) (by (try conv => lhs; simp only [List.set_cons_zero, List.set_cons_succ]); first | done | rfl) (FillS.one (by rfl) (by rfl) (by (try simp only [List.length_append, List.length_set, List.length_cons, List.length_nil]); first | done | decide | omega) (by (try conv => lhs; simp only [List.set_cons_zero, List.set_cons_succ]); first | done | rfl) (FillS.one (by rfl) (by rfl) (by (try simp only [List.length_append, List.length_set, List.length_cons, List.length_nil]); first | done | decide | omega) (by (try conv => lhs; simp only [List.set_cons_zero, List.set_cons_succ]); first | done | rfl) (FillS.one (by rfl) (by rfl) (by (try simp only [List.length_append, List.length_set, List.length_cons, List.length_nil]); first | done | decide | omega) (by (try conv => lhs; simp only [List.set_cons_zero, List.set_cons_succ]); first | done | rfl) (FillS.one (by rfl) (by rfl) (by (try simp only [List.length_append, List.length_set, List.length_cons, List.length_nil]); first | done | decide | omega) (by (try conv => lhs; simp only [List.set_cons_zero, List.set_cons_succ]); first | done | rfl) (FillS.one (by rfl) (by rfl) (by (try simp only [List.length_append, List.length_set, List.length_cons, List.length_nil]); first | done | decide | omega) (by (try conv => lhs; simp only [List.set_cons_zero, List.set_cons_succ]); first | done | rfl) FillS.nil)))))) : o.quietAt P a C w (.agg cs.toArray) := q_val (r_built hop hp (built_st hT (fill_of hc)))
theorem q_builtA {t : TypeId} {parts : Array (Nat × Operand)} {vs : List (Nat × Value)} {cs : List Value} {n : Nat} {z : List Value} (hop : o.op = .build t parts := by rfl) (hp : evp a parts.toList = some vs := by rfl) (hT : AtT P t n z := by infer_instance) (hc : FillS (fun i => some (i * n, n)) z vs cs := by first | exact FillS.nil | exact FillS.one (by rfl) (by rfl) (by (try simp only [List.length_append, List.length_set, List.length_cons, List.length_nil]); first | done | decide | omega) (by (try conv => lhs; simp only [List.set_cons_zero, List.set_cons_succ]); first | done | rfl) FillS.nil | exact FillS.one (by rfl) (by rfl) (by (try simp only [List.length_append, List.length_set, List.length_cons, List.length_nil]); first | done | decide | omega) (by (try conv => lhs; simp only [List.set_cons_zero, List.set_cons_succ]); first | done | rfl) (FillS.one (by rfl) (by rfl) (by (try simp only [List.length_append, List.length_set, List.length_cons, List.length_nil]); first | done | decide | omega) (by (try conv => lhs; simp only [List.set_cons_zero, List.set_cons_succ]); first | done | rfl) FillS.nil) | exact FillS.one (by rfl) (by rfl) (by (try simp only [List.length_append, List.length_set, List.length_cons, List.length_nil]); first | done | decide | omega) (by (try conv => lhs; simp only [List.set_cons_zero, List.set_cons_succ]); first | done | rfl) (FillS.one (by rfl) (by rfl) (by (try simp only [List.length_append, List.length_set, List.length_cons, List.length_nil]); first | done | decide | omega) (by (try conv => lhs; simp only [List.set_cons_zero, List.set_cons_succ]); first | done | rfl) (FillS.one (by rfl) (by rfl) (by (try simp only [List.length_append, List.length_set, List.length_cons, List.length_nil]); first | done | decide | omega) (by (try conv => lhs; simp only [List.set_cons_zero, List.set_cons_succ]); first | done | rfl) FillS.nil)) | exact FillS.one (by rfl) (by rfl) (by (try simp only [List.length_append, List.length_set, List.length_cons, List.length_nil]); first | done | decide | omega) (by (try conv => lhs; simp only [List.set_cons_zero, List.set_cons_succ]); first | done | rfl) (FillS.one (by rfl) (by rfl) (by (try simp only [List.length_append, List.length_set, List.length_cons, List.length_nil]); first | done | decide | omega) (by (try conv => lhs; simp only [List.set_cons_zero, List.set_cons_succ]); first | done | rfl) (FillS.one (by rfl) (by rfl) (by (try simp only [List.length_append, List.length_set, List.length_cons, List.length_nil]); first | done | decide | omega) (by (try conv => lhs; simp only [List.set_cons_zero, List.set_cons_succ]); first | done | rfl) (FillS.one (by rfl) (by rfl) (by (try simp only [List.length_append, List.length_set, List.length_cons, List.length_nil]); first | done | decide | omega) (by (try conv => lhs; simp only [List.set_cons_zero, List.set_cons_succ]); first | done | rfl) FillS.nil))) | exact FillS.one (by rfl) (by rfl) (by (try simp only [List.length_append, List.length_set, List.length_cons, List.length_nil]); first | done | decide | omega) (by (try conv => lhs; simp only [List.set_cons_zero, List.set_cons_succ]); first | done | rfl) (FillS.one (by rfl) (by rfl) (by (try simp only [List.length_append, List.length_set, List.length_cons, List.length_nil]); first | done | decide | omega) (by (try conv => lhs; simp only [List.set_cons_zero, List.set_cons_succ]); first | done | rfl) (FillS.one (by rfl) (by rfl) (by (try simp only [List.length_append, List.length_set, List.length_cons, List.length_nil]); first | done | decide | omega) (by (try conv => lhs; simp only [List.set_cons_zero, List.set_cons_succ]); first | done | rfl) (FillS.one (by rfl) (by rfl) (by (try simp only [List.length_append, List.length_set, List.length_cons, List.length_nil]); first | done | decide | omega) (by (try conv => lhs; simp only [List.set_cons_zero, List.set_cons_succ]); first | done | rfl) (FillS.one (by rfl) (by rfl) (by (try simp only [List.length_append, List.length_set, List.length_cons, List.length_nil]); first | done | decide | omega) (by (try conv => lhs; simp only [List.set_cons_zero, List.set_cons_succ]); first | done | rfl) FillS.nil)))) | exact FillS.one (by rfl) (by rfl) (by (try simp only [List.length_append, List.length_set, List.length_cons, List.length_nil]); first | done | decide | omega) (by (try conv => lhs; simp only [List.set_cons_zero, List.set_cons_succ]); first | done | rfl) (FillS.one (by rfl) (by rfl) (by (try simp only [List.length_append, List.length_set, List.length_cons, List.length_nil]); first | done | decide | omega) (by (try conv => lhs; simp only [List.set_cons_zero, List.set_cons_succ]); first | done | rfl) (FillS.one (by rfl) (by rfl) (by (try simp only [List.length_append, List.length_set, List.length_cons, List.length_nil]); first | done | decide | omega) (by (try conv => lhs; simp only [List.set_cons_zero, List.set_cons_succ]); first | done | rfl) (FillS.one (by rfl) (by rfl) (by (try simp only [List.length_append, List.length_set, List.length_cons, List.length_nil]); first | done | decide | omega) (by (try conv => lhs; simp only [List.set_cons_zero, List.set_cons_succ]); first | done | rfl) (FillS.one (by rfl) (by rfl) (by (try simp only [List.length_append, List.length_set, List.length_cons, List.length_nil]); first | done | decide | omega) (by (try conv => lhs; simp only [List.set_cons_zero, List.set_cons_succ]); first | done | rfl) (FillS.one (by rfl) (by rfl) (by (try simp only [List.length_append, List.length_set, List.length_cons, List.length_nil]); first | done | decide | omega) (by (try conv => lhs; simp only [List.set_cons_zero, List.set_cons_succ]); first | done | rfl) FillS.nil)))))) : o.quietAt P a C w (.agg cs.toArray) := q_val (r_built hop hp (built_at hT (fill_of hc)))
theorem ones_lit {l : List Value} (h : l.all Value.oneCell' = true) : ones l.toArray = true := by
  unfold ones
  simpa using h
theorem g_storeRO {t : TypeId} {x y : Operand} {n b off : Nat} {cs vs cs' : Array Value} {ty : TypeId} {L' : List Blk} {i : Nat} (hStp : Stp P ops W) (hH : Own B H) (hS : H w L) (hk : ∀ w', H w' L' → W rest (a.put o.dst undef) w') (hop : o.op = .store t x y := by rfl) (hx : evO a x = some (.pointer (some ⟨b, off, none⟩)) := by rfl) (hy : evO a y = some (.agg vs) := by rfl) (h1 : RowT P t n := by infer_instance) (hn : csz vs = n := by (try simp only [csz_setc, csz_bvs, csz_list, List.length_append, List.length_set, zs_len, List.length_take, List.length_drop, List.length_cons, List.length_nil, List.length_map]); first | done | rfl | omega) (hv : ones vs = true := by exact ones_lit (by rfl)) (hi : L[i]? = some (b, cs, ty) := by first | exact at_ 0 rfl | exact at_ 1 rfl | exact at_ 2 rfl | exact at_ 3 rfl | exact at_ 4 rfl | exact at_ 5 rfl | exact at_ 6 rfl | exact at_ 7 rfl | exact at_ 8 rfl | exact at_ 9 rfl | exact at_ 10 rfl | exact at_ 11 rfl | exact at_ 12 rfl | exact at_ 13 rfl) (ho : off + n ≤ csz cs := by (try simp only [csz_setc, csz_bvs, csz_list, List.length_append, List.length_set, zs_len, List.length_take, List.length_drop, List.length_cons, List.length_nil, List.length_map]); first | done | rfl | omega) (hc : paste cs off vs = cs' := by first | exact paste_whole _ _ (by (try simp only [csz_setc, csz_bvs, csz_list, List.length_append, List.length_set, zs_len, List.length_take, List.length_drop, List.length_cons, List.length_nil, List.length_map]); first | done | rfl | omega) | rfl) (hL : L.set i (b, cs', ty) = L' := by (try conv => lhs; simp only [List.setIfInBounds_toArray, List.set_cons_zero, List.set_cons_succ, List.eraseIdx_cons_zero, List.eraseIdx_cons_succ]); first | done | rfl) (hw : Region.wanted o (yielded ops a.tmps) = true := by rfl) : W (o :: rest) a w := s_storeR hStp hH hS hw hop hx hy h1 hn hv hi ho hc hL hk
theorem r_nilCheck {x : Operand} {b off : Nat} (hop : o.op = .nilCheck x) (hx : evO a x = some (.pointer (some ⟨b, off, none⟩))) : (execOp a.eval o).run P w = .ok (.value (.pointer (some ⟨b, off, none⟩))) w := by
  unfold execOp; rw [hop]
  simp only [evO_eval hx]
  rfl
theorem g_nilCheck {x : Operand} {b off : Nat} (hStp : Stp P ops W) (hk : W rest (a.put o.dst (.pointer (some ⟨b, off, none⟩))) w) (hop : o.op = .nilCheck x := by rfl) (hx : evO a x = some (.pointer (some ⟨b, off, none⟩)) := by rfl) (hw : Region.wanted o (yielded ops a.tmps) = true := by rfl) (hd : isDefer o = false := by rfl) : W (o :: rest) a w := hStp.go hw hd (r_nilCheck hop hx) hk
theorem q_nilCheck {x : Operand} {b off : Nat} (hop : o.op = .nilCheck x := by rfl) (hx : evO a x = some (.pointer (some ⟨b, off, none⟩)) := by rfl) : o.quietAt P a C w (.pointer (some ⟨b, off, none⟩)) := q_val (r_nilCheck hop hx)
/-- clear: of one's own block the cells behind a place. -/
theorem s_clear {x : Operand} {t e size bytes b off n c i : Nat} {cs : Array Value} {ty : TypeId} {pre mid zc : List Value} (hs : Stp P ops W) (hH : Own B H) (hS : H w L) (hw : Region.wanted o (yielded ops a.tmps) = true)
    (hop : o.op = .call { callee := .builtin .clear, args := #[x], argTypes := #[t] }) (hx : evO a x = some (.slice (some ⟨b, off, none⟩) n c)) (hT : SlT P t e size bytes) (hz : ZeroT P e zc.toArray) (hzl : zc.length = size) (hzo : ∀ v ∈ zc, v.oneCell' = true) (hn : 0 < n)
    (hi : L[i]? = some (b, cs, ty)) (hcs : cs.toList = pre ++ mid) (hpre : pre.length = off) (hmid : n * size ≤ mid.length)
    (hk : ∀ (z : List Value) (w' : World), z.length = mid.length → H w' (L.set i (b, (pre ++ z).toArray, ty)) → W rest (a.put o.dst (.tuple #[])) w') : W (o :: rest) a w := by
  obtain ⟨ht, inf, z, hie, hz1, hsz, hby, hzs, hps⟩ := elemB_iff hT.is
  obtain ⟨z', hr1, hz2⟩ := run_zero (w := w) hz.is
  have hd : isDefer o = false := by unfold isDefer; rw [hop]
  have hb := hH.blk i hS hi
  have hcl : (Builtin.zeroCells zc.toArray n).toList.length = n * size := by rw [Array.length_toList, size_zeroCells]; simp [hzl]
  have hone : ∀ v ∈ (Builtin.zeroCells zc.toArray n).toList, v.oneCell' = true := by
    intro v hv
    obtain ⟨k, hk2, rfl⟩ := List.getElem_of_mem hv
    rw [hcl] at hk2
    simp only [Builtin.zeroCells, Array.getElem_toList, Array.getElem_map, Array.getElem_range]
    have hlt : k % zc.toArray.size < zc.length := by simp only [List.size_toArray]; exact Nat.mod_lt _ (by rw [hzl]; exact hps)
    have : zc.toArray[k % zc.toArray.size]! = zc[k % zc.toArray.size] := by
      rw [getElem!_pos zc.toArray _ (by simpa using hlt)]
      simp
    rw [this]
    exact hzo _ (List.getElem_mem _)
  have hcsz : cs.size = off + mid.length := by rw [← Array.length_toList, hcs, List.length_append, hpre]
  have hst := run_storeCells_at (P := P) b off ty (Builtin.zeroCells zc.toArray n).toList 0 cs w hb (by rw [hcl, hcsz]; omega) hone
  have hn0 : n ≠ 0 := by omega
  have hrun : (execOp a.eval o).run P w = .ok (.value (.tuple #[])) (w.setRow b (splice cs (off + 0) (Builtin.zeroCells zc.toArray n).toList.toArray)) := by
    unfold execOp; rw [hop]
    simp only [resolve, Sem.run_bind, Sem.run_pure, Result.andThen_ok, invoke, builtin]
    have e1 : #[x].map a.eval = #[.slice (some ⟨b, off, none⟩) n c] := by simp [evO_eval hx]
    rw [e1]
    obtain ⟨m, rfl⟩ : ∃ m, n = m + 1 := ⟨n - 1, by omega⟩
    simp only [Builtin.clear_, Sem.run_bind, Sem.run_pure, List.getElem?_toArray, List.getElem?_cons_zero, run_underlying ht, Result.andThen_ok, hr1, hz2, hst]
  refine hs.go hw hd hrun ?_
  have hrow : splice cs (off + 0) (Builtin.zeroCells zc.toArray n).toList.toArray = (pre ++ ((Builtin.zeroCells zc.toArray n).toList ++ mid.drop (n * size))).toArray := by
    unfold splice
    rw [hcs, Nat.add_zero, ← hpre, List.take_left, List.append_assoc]
    congr 3
    rw [List.drop_append, List.drop_of_length_le (by omega), List.nil_append]
    congr 1
    have : (Builtin.zeroCells zc.toArray n).size = n * size := by simpa using hcl
    simp [this]
  rw [hrow]
  exact hk _ _ (by rw [List.length_append, hcl, List.length_drop]; omega) (hH.setRow i _ hS hi)
/-- A field of a struct, then its own cells: where a row lies within a struct that came in as one value. -/
theorem r_shr1 {x : Operand} {t t' : TypeId} {n : Nat} {q : Int} (hop : o.op = .binOp .shr t x (.const (.int .u64 1)) t') (hx : evO a x = some (.int .u64 (n : Int))) (hq : ((n / 2 : Nat) : Int) = q) (_hn : n < 18446744073709551616) : (execOp a.eval o).run P w = .ok (.value (.int .u64 q)) w := by
  unfold execOp; rw [hop]; subst hq
  simp [evO_eval hx, eqGuard, binOp, Op.shift, show a.eval (.const (.int .u64 1)) = .int .u64 1 from rfl]
  rw [show (2 : Int) ^ min 1 IntKind.u64.bits = 2 from rfl, Int.fdiv_eq_ediv_of_nonneg _ (by decide)]
end
end Go.Proofs.Ytkfggilildiflab

namespace Go.Proofs.Ytkfggilildiflab
open Go.RowKit
def nthL {α : Type} : List α → Nat → Option α
  | [], _ => none
  | a :: _, 0 => some a
  | _ :: l, n + 1 => nthL l n
theorem nthL_eq {α : Type} : ∀ (l : List α) (n : Nat), nthL l n = l[n]?
  | [], n => by simp [nthL]
  | a :: l, 0 => by simp [nthL]
  | a :: l, n + 1 => by simp [nthL, nthL_eq l n]
/-- Where a number stands. -/
def posL : List Nat → Nat → Nat
  | [], _ => 0
  | y :: l, x => if y = x then 0 else posL l x + 1
def reE (s : List Nat) (e : Edge) : Edge := ⟨posL s e.on, e.ground⟩
def reG (s : List Nat) : Option (Nat × Bool) → Option (Nat × Bool)
  | none => none
  | some (j, b) => some (posL s j, b)
def reO (s : List Nat) (o : Oper) : Oper := ⟨o.dst, o.op, o.type, o.pos, (o.after.toList.map (reE s)).toArray, reG s o.guard⟩
def orD : Option Oper → Oper
  | some o => o
  | none => default
def permL (s : List Nat) (l : List Oper) : List Oper := s.map fun i => reO s (orD (nthL l i))
def permOK (s : List Nat) (l : List Oper) : Bool :=
  (List.range l.length).all (fun i => decide (posL s i < l.length) && nthL s (posL s i) == some i) &&
  (List.range l.length).all (fun k => match nthL s k with | some i => decide (i < l.length) && posL s i == k | none => false) && s.length == l.length &&
  l.all (fun o => o.after.toList.all (fun e => decide (e.on < l.length)) && (match o.guard with | some g => decide (g.1 < l.length) | none => true))
section
variable {P : Program} {md : Region.Mode} {Q : Exit → Act → World → Prop} {s : List Nat} {l : List Oper}
theorem perm_1 (h : permOK s l = true) {i : Nat} (hi : i < l.length) : posL s i < l.length ∧ s[posL s i]? = some i := by
  simp only [permOK, Bool.and_eq_true] at h
  have := List.all_eq_true.1 h.1.1.1 i (List.mem_range.2 hi)
  simp only [Bool.and_eq_true, decide_eq_true_eq, beq_iff_eq, nthL_eq] at this
  exact this
theorem perm_2 (h : permOK s l = true) {k : Nat} (hk : k < l.length) : ∃ i, s[k]? = some i ∧ i < l.length ∧ posL s i = k := by
  simp only [permOK, Bool.and_eq_true] at h
  have := List.all_eq_true.1 h.1.1.2 k (List.mem_range.2 hk)
  rw [nthL_eq] at this
  split at this
  · next i hi =>
    simp only [Bool.and_eq_true, decide_eq_true_eq, beq_iff_eq] at this
    exact ⟨i, hi, this⟩
  · cases this
theorem perm_len (h : permOK s l = true) : (permL s l).length = l.length := by
  simp only [permOK, Bool.and_eq_true, beq_iff_eq] at h
  unfold permL
  rw [List.length_map, h.1.2]
theorem perm_on (h : permOK s l = true) {i : Nat} {o : Oper} (hi : l[i]? = some o) {e : Edge} (he : e ∈ o.after) : e.on < l.length := by
  simp only [permOK, Bool.and_eq_true] at h
  have := List.all_eq_true.1 h.2 o (List.mem_of_getElem? hi)
  simp only [Bool.and_eq_true] at this
  have := List.all_eq_true.1 this.1 e (by simpa using he)
  simpa using this
theorem perm_guard (h : permOK s l = true) {i : Nat} {o : Oper} (hi : l[i]? = some o) {g : Nat × Bool} (hg : o.guard = some g) : g.1 < l.length := by
  simp only [permOK, Bool.and_eq_true] at h
  have := List.all_eq_true.1 h.2 o (List.mem_of_getElem? hi)
  simp only [Bool.and_eq_true, hg] at this
  simpa using this.2
theorem perm_at (h : permOK s l = true) {i : Nat} {o : Oper} (hi : l[i]? = some o) : (permL s l)[posL s i]? = some (reO s o) := by
  have hil := (List.getElem?_eq_some_iff.1 hi).1
  unfold permL
  rw [List.getElem?_map, (perm_1 h hil).2]
  simp only [Option.map_some, nthL_eq, hi, orD]
theorem perm_yielded (h : permOK s l = true) (tmps : Array Value) {j : Nat} (hj : j < l.length) : yielded (permL s l).toArray tmps (posL s j) = yielded l.toArray tmps j := by
  have hg : l[j]? = some l[j] := List.getElem?_eq_getElem hj
  have h1 := perm_at h hg
  unfold yielded
  rw [List.getElem?_toArray, List.getElem?_toArray, h1, hg]
  rfl
theorem perm_wanted (h : permOK s l = true) {i : Nat} {o : Oper} (hi : l[i]? = some o) (tmps : Array Value) : Region.wanted (reO s o) (yielded (permL s l).toArray tmps) = Region.wanted o (yielded l.toArray tmps) := by
  unfold Region.wanted
  cases hg : o.guard with
  | none => simp only [reO, hg, reG]
  | some g =>
    obtain ⟨j, b⟩ := g
    have := perm_yielded h tmps (perm_guard h hi hg)
    simp only [reO, hg, reG] at this ⊢
    rw [this]
theorem perm_wp (o : Oper) (a : Act) (w : World) (K : Act → World → Prop) : Oper.wp P (reO s o) a w K Q ↔ Oper.wp P o a w K Q := Iff.rfl
theorem perm_asks (o : Oper) (a : Act) (w : World) : (reO s o).asks P a w ↔ o.asks P a w := Iff.rfl
theorem perm_ready (h : permOK s l = true) {x y : Array Bool} (hx : x.size = l.length) (hy : y.size = l.length) (hxy : ∀ i, i < l.length → y.getD (posL s i) true = x.getD i true) {i : Nat} (hil : i < l.length) :
    posL s i ∈ Region.ready md (permL s l).toArray y ↔ i ∈ Region.ready md l.toArray x := by
  have hg : l[i]? = some l[i] := List.getElem?_eq_getElem hil
  have hp := perm_at h hg
  rw [mem_ready, mem_ready, hxy i hil]
  refine and_congr Iff.rfl ⟨?_, ?_⟩
  · rintro ⟨o, ho, hall⟩
    rw [List.getElem?_toArray, hp] at ho
    obtain rfl := Option.some.inj ho
    refine ⟨l[i], by rw [List.getElem?_toArray]; exact hg, fun e he hb => ?_⟩
    have hon := perm_on h hg he
    have h1 := hall (reE s e) (by simp only [reO, List.mem_toArray]; exact List.mem_map.2 ⟨e, by simpa using he, rfl⟩) hb
    have hp1 := (perm_1 h hon).1
    have h1 : y.getD (posL s e.on) false = true := h1
    rw [getD_flip (by omega) false true] at h1 ⊢
    rw [← hxy _ hon]; exact h1
  · rintro ⟨o, ho, hall⟩
    rw [List.getElem?_toArray, hg] at ho
    obtain rfl := Option.some.inj ho
    refine ⟨reO s l[i], by rw [List.getElem?_toArray]; exact hp, fun e he hb => ?_⟩
    simp only [reO, List.mem_toArray] at he
    obtain ⟨e0, he0, rfl⟩ := List.mem_map.1 he
    have he1 : e0 ∈ l[i].after := by simpa using he0
    have hon := perm_on h hg he1
    have h1 := hall e0 he1 hb
    have hp1 := (perm_1 h hon).1
    show y.getD (posL s e0.on) false = true
    rw [getD_flip (by omega) false true] at h1 ⊢
    rw [hxy _ hon]; exact h1
theorem any_perm (h : permOK s l = true) : ∀ (fuel : Nat) (x y : Array Bool) (a : Act) (w : World), x.size = l.length → y.size = l.length → (∀ i, i < l.length → y.getD (posL s i) true = x.getD i true) →
    wpAny P md (permL s l).toArray Q fuel y a w → wpAny P md l.toArray Q fuel x a w := by
  intro fuel
  have hnil : ∀ (x y : Array Bool), x.size = l.length → y.size = l.length → (∀ i, i < l.length → y.getD (posL s i) true = x.getD i true) → (Region.ready md (permL s l).toArray y = [] ↔ Region.ready md l.toArray x = []) := by
    intro x y hx hy hxy
    constructor
    · intro h0
      refine List.eq_nil_iff_forall_not_mem.2 fun i hi => ?_
      obtain ⟨_, o, ho, _⟩ := mem_ready.1 hi
      have hil : i < l.length := by simpa using (Array.getElem?_eq_some_iff.1 ho).1
      have := (perm_ready (md := md) h hx hy hxy hil).2 hi
      rw [h0] at this; cases this
    · intro h0
      refine List.eq_nil_iff_forall_not_mem.2 fun k hk => ?_
      obtain ⟨_, o, ho, _⟩ := mem_ready.1 hk
      have hkl : k < l.length := by have := (Array.getElem?_eq_some_iff.1 ho).1; rw [List.size_toArray, perm_len h] at this; exact this
      obtain ⟨i, hi, hil, rfl⟩ := perm_2 h hkl
      have := (perm_ready (md := md) h hx hy hxy hil).1 hk
      rw [h0] at this; cases this
  induction fuel with
  | zero =>
    intro x y a w hx hy hxy hA
    exact ⟨(hnil x y hx hy hxy).1 hA.1, hA.2⟩
  | succ fuel ih =>
    intro x y a w hx hy hxy hA
    refine ⟨fun h0 => hA.1 ((hnil x y hx hy hxy).2 h0), fun i hi => ?_⟩
    obtain ⟨_, o, ho, _⟩ := mem_ready.1 hi
    have hil : i < l.length := by simpa using (Array.getElem?_eq_some_iff.1 ho).1
    have ho2 : l[i]? = some o := by simpa using ho
    have h1 := hA.2 (posL s i) ((perm_ready (md := md) h hx hy hxy hil).2 hi)
    have hp := perm_at h ho2
    have hK : ∀ a' w', wpAny P md (permL s l).toArray Q fuel (y.setIfInBounds (posL s i) true) a' w' → wpAny P md l.toArray Q fuel (x.setIfInBounds i true) a' w' := fun a' w' hh => by
      refine ih _ _ a' w' (by simpa using hx) (by simpa using hy) (fun j hj => ?_) hh
      have hj1 := perm_1 h hj
      have hi1 := perm_1 h hil
      by_cases hji : j = i
      · subst hji
        simp [Array.getD, hx, hy, hj, hj1.1]
      · have hne : posL s i ≠ posL s j := fun e => hji (by
          have := hj1.2
          rw [← e, hi1.2] at this
          exact (Option.some.inj this).symm)
        rw [getD_set_ne true hne, getD_set_ne true (Ne.symm hji)]
        exact hxy j hj
    unfold wpOp at h1 ⊢
    rw [List.getElem?_toArray, hp] at h1
    rw [List.getElem?_toArray, ho2]
    simp only at h1 ⊢
    rw [perm_wanted h ho2] at h1
    split
    · next hw =>
      rw [if_pos hw] at h1
      exact h1.imp (fun h2 => Oper.wp_mono hK ((perm_wp o a w _).1 h2)) id
    · next hw =>
      rw [if_neg hw] at h1
      exact hK _ _ h1
theorem any_mono {n : Nat} {a : Act} {w : World} (hB : frontOK md (l.take n) (l.drop n) = true)
    (h : wpM P md l.toArray w (fun a' F => ∀ b w', Cls w w' → (∀ x ∈ F, w.heap.size ≤ b x.1 ∧ blk w' (b x.1) = some (.cells x.2.1 x.2.2 (0, 0))) → (∀ x ∈ F, ∀ y ∈ F, x.1 ≠ y.1 → b x.1 ≠ b y.1) → wpList P l.toArray Q (l.drop n) (a' b) w') (l.take n) 0 (fun _ => a) []) :
    wpAny P md l.toArray Q l.length (Array.replicate l.length false) a { w with drawn := w.drawn + 1 } := by
  have hh : l.take n ++ l.drop n = l := List.take_append_drop n l
  generalize l.take n = A at *
  generalize l.drop n = T at *
  subst hh
  obtain ⟨L, hL, hstep, hQ⟩ := wpM_out A 0 _ [] h
  have hc : Cls w { w with drawn := w.drawn + 1 } := ⟨rfl, rfl, rfl, Nat.le_refl _, fun _ _ => rfl⟩
  refine any_front hB hL hstep (fun b w' hN => hQ b w' hN.1 (fun x hx => ?_) (fun x hx y hy hne => ?_)) _ _ (fun _ => 0) a _ (by simp) (fun j o _ hl => by simp only [Array.getD] at hl; split at hl <;> simp at hl) (fun j _ hj => by simp only [List.length_append] at hj; simp [Array.getD]; omega) ?_ ?_ ?_
  · rcases mem_factsT _ _ _ hx with h1 | ⟨k, o, mk, hk, he⟩
    · cases h1
    · have : x.1 = k := by omega
      rw [this]
      exact hN.2.1 k o mk _ _ hk rfl
  · rcases mem_factsT _ _ _ hx with h1 | ⟨k, o, mk, hk, he⟩
    · cases h1
    rcases mem_factsT _ _ _ hy with h1 | ⟨k', o', mk', hk', he'⟩
    · cases h1
    have e1 : x.1 = k := by omega
    have e2 : y.1 = k' := by omega
    rw [e1, e2] at hne ⊢
    exact hN.2.2 k k' _ _ _ _ _ _ _ _ hk hk' rfl rfl hne
  · unfold left
    exact Nat.le_trans List.countP_le_length (by simp)
  · refine (Sees.start L a (fun _ => 0)).congr (fun j _ => ?_) (fun _ _ _ => rfl)
    simp only [Array.getD]
    split <;> simp
  · refine ⟨hc, fun j o mk cs t hj hl => ?_, fun i j x y mx cx tx my cy ty hi hj h1 _ => ?_⟩
    · simp only [Array.getD] at hl
      split at hl <;> simp at hl
    · simp only [Array.getD] at h1
      split at h1 <;> simp at h1
/-- **The region, one walk in an order of one's own** (s: for each place the number of the operation that stands there): the first n in front, the others behind them. -/
theorem region_perm_lit {id : Nat} {a : Act} {w : World} (s : List Nat) (n : Nat) {l2 : List Oper} (hm : P.follows .mixedOrders = true) (hs : permOK s l = true) (hl : permL s l = l2) (hB : frontOK .any (l2.take n) (l2.drop n) = true)
    (h : wpM P .any l2.toArray w (fun a' F => ∀ b w', Cls w w' → (∀ x ∈ F, w.heap.size ≤ b x.1 ∧ blk w' (b x.1) = some (.cells x.2.1 x.2.2 (0, 0))) → (∀ x ∈ F, ∀ y ∈ F, x.1 ≠ y.1 → b x.1 ≠ b y.1) → wpList P l2.toArray Q (l2.drop n) (a' b) w') (l2.take n) 0 (fun _ => a) []) :
    (Code.region id l.toArray true).wp P Q a w := by
  subst hl
  have h1 := any_mono hB h
  rw [perm_len hs] at h1
  refine wp_region_any hm ?_
  refine any_perm hs _ _ _ a _ (by simp) (by simp) (fun i hi => ?_) h1
  have := (perm_1 hs hi).1
  simp [Array.getD, hi, this]
end
end Go.Proofs.Ytkfggilildiflab

namespace Go.Proofs.Ytkfggilildiflab
open Go.RowKit
/-- What is listed where these are left. -/
def lst (n : Nat) (R : List Nat) : Array Bool := ((List.range n).map fun i => !R.contains i).toArray
/-- Operations that look at no memory and call nothing. -/
def pureKind (o : Oper) : Bool := match o.op with
  | .move _ | .assign _ | .pick .. | .extract .. | .slice .. | .fieldAddr .. | .field .. | .indexAddr .. | .binOp .. | .unOp .. | .convert .. | .makeInterface .. => true
  | _ => false
/-- This one may be taken ahead of all others that are left. -/
def pullOK (ops : Array Oper) (R : List Nat) (i : Nat) : Bool :=
  let R' := R.erase i
  Region.noSelect ops && (Region.ready .any ops (lst ops.size R)).contains i && (lst ops.size R).setIfInBounds i true == lst ops.size R' && R.length == R'.length + 1 &&
  (match ops[i]? with
  | some oi => pureKind oi && R'.all (fun j => match ops[j]? with
    | some oj => oj.after.toList.any (fun e => Region.binds .any e && e.on == i) || oi.apart ops oj
    | none => true) && (List.range ops.size).all (fun j => j == i || R'.contains j || (lst ops.size R).getD j true)
  | none => false)
/-- This one is the next. -/
def turnOK (ops : Array Oper) (R : List Nat) (i : Nat) : Bool :=
  let R' := R.erase i
  Region.ready .any ops (lst ops.size R) == [i] && (lst ops.size R).setIfInBounds i true == lst ops.size R' && R.length == R'.length + 1
/-- One of these two is the next. -/
def turn2OK (ops : Array Oper) (R : List Nat) (i j : Nat) : Bool :=
  let R1 := R.erase i
  let R2 := R.erase j
  Region.ready .any ops (lst ops.size R) == [i, j] && (lst ops.size R).setIfInBounds i true == lst ops.size R1 && (lst ops.size R).setIfInBounds j true == lst ops.size R2 && R.length == R1.length + 1 && R.length == R2.length + 1
def WA (P : Program) (ops : Array Oper) (Q : Exit → Act → World → Prop) (R : List Nat) (a : Act) (w : World) : Prop := wpAny P .any ops Q R.length (lst ops.size R) a w
section
variable {P : Program} {ops : Array Oper} {Q : Exit → Act → World → Prop} {R : List Nat} {a : Act} {w : World} {o : Oper}
theorem nth_at {i : Nat} (h : nthL ops.toList i = some o) : ops[i]? = some o := by
  rw [nthL_eq] at h
  simpa using h
theorem any_start {id : Nat} (R : List Nat) (hm : P.follows .mixedOrders = true) (hR : (lst ops.size R == Array.replicate ops.size false && R.length == ops.size) = true) (h : ∀ w', Cls w w' → WA P ops Q R a w') : (Code.region id ops true).wp P Q a w := by
  simp only [Bool.and_eq_true, beq_iff_eq] at hR
  refine wp_region_any hm ?_
  have := h { w with drawn := w.drawn + 1 } ⟨rfl, rfl, rfl, Nat.le_refl _, fun _ _ => rfl⟩
  unfold WA at this
  rwa [hR.1, hR.2] at this
theorem any_done (hR : (R.isEmpty && Region.ready .any ops (lst ops.size R) == []) = true) (h : wpList P ops Q [] a w) : WA P ops Q R a w := by
  simp only [Bool.and_eq_true, beq_iff_eq, List.isEmpty_iff] at hR
  obtain ⟨rfl, hR⟩ := hR
  exact ⟨hR, h⟩
theorem pull_pure {v : Value} (hpk : pureKind o = true) (hw : Region.wanted o (yielded ops a.tmps) = true) (hq : ∀ (C : World → Prop) w', o.quietAt P a C w' v) : Yields P ops o v a := by
  refine .inl ⟨hw, fun w' => ?_⟩
  have h1 := hq (fun _ => True) w'
  unfold Oper.quietAt at h1
  have hne : ∀ f args w2, (execOp a.eval o).run P w' ≠ .ok (.enter f args) w2 := by
    intro f args w2 he
    unfold pureKind at hpk
    unfold execOp at he
    split at hpk <;> first | (cases hpk; done) | skip
    all_goals
      next hop =>
      rw [hop] at he
      simp only [Sem.run_bind, Sem.run_pure] at he
      first
        | (cases he; done)
        | (revert he; generalize Sem.run P _ w' = r; cases r <;> (intro he; simp [Result.andThen] at he; done))
        | (revert he; generalize Sem.run P _ w' = r; cases r <;> intro he <;> simp only [Result.andThen] at he <;> first | (cases he; done) | (revert he; generalize Sem.run P _ _ = r2; cases r2 <;> (intro he; simp [Result.andThen] at he; done)))
  have hns2 : ∀ w2, (execOp a.eval o).run P w' = .ok .skip w2 → False := by
    intro w2 he
    unfold pureKind at hpk
    unfold execOp at he
    split at hpk <;> first | (cases hpk; done) | skip
    all_goals
      next hop =>
      rw [hop] at he
      simp only [Sem.run_bind, Sem.run_pure] at he
      first
        | (cases he; done)
        | (revert he; generalize Sem.run P _ w' = r; cases r <;> (intro he; simp [Result.andThen] at he; done))
        | (revert he; generalize Sem.run P _ w' = r; cases r <;> intro he <;> simp only [Result.andThen] at he <;> first | (cases he; done) | (revert he; generalize Sem.run P _ _ = r2; cases r2 <;> (intro he; simp [Result.andThen] at he; done)))
  generalize hr : (execOp a.eval o).run P w' = r at *
  cases r with
  | halt x w2 => exact h1.elim
  | ok n w2 =>
    cases n <;> simp only [Oper.quietUpon] at h1
    case value u => obtain ⟨rfl, rfl⟩ := h1; rfl
    case skip => exact (hns2 _ rfl).elim
    case enter f args => exact absurd rfl (hne f args w2)
theorem any_first {v : Value} (i : Nat) (hok : pullOK ops R i = true) (hi' : nthL ops.toList i = some o) (hQ : ∀ (u : Value) c a w, Q (.panic c) (a.put o.dst u) w → Q (.panic c) a w)
    (hy : pureKind o = true → Yields P ops o v a) (h : WA P ops Q (R.erase i) (a.put o.dst v) w) : WA P ops Q R a w := by
  have hi := nth_at hi'
  unfold pullOK at hok
  rw [hi] at hok
  simp only [Bool.and_eq_true, beq_iff_eq] at hok
  obtain ⟨⟨⟨⟨hns, hrd⟩, hset⟩, hlen⟩, ⟨hpk, hall⟩, hcov⟩ := hok
  replace hy := hy hpk
  unfold WA at h ⊢
  rw [hlen]
  refine wpAny_first hi (Region.noSelect_spec hns) (hQ v) _ _ _ _ ?_ (List.contains_iff_mem.1 hrd) hy (by rw [hset]; exact h)
  intro j oj hoj hji hun hno
  have hjl : j < ops.size := (Array.getElem?_eq_some_iff.1 hoj).1
  have h1 := List.all_eq_true.1 hcov j (List.mem_range.2 hjl)
  simp only [Bool.or_eq_true, beq_iff_eq] at h1
  rcases h1 with (h1 | h1) | h1
  · exact absurd h1 hji
  · have h2 := List.all_eq_true.1 hall j (List.contains_iff_mem.1 h1)
    rw [hoj] at h2
    simp only [Bool.or_eq_true] at h2
    rcases h2 with h2 | h2
    · obtain ⟨e, he, hb⟩ := List.any_eq_true.1 h2
      simp only [Bool.and_eq_true, beq_iff_eq] at hb
      exact absurd hb.2 (hno e (by simpa using he) hb.1)
    · exact h2
  · rw [h1] at hun; cases hun
theorem any_pull (i : Nat) (hok : pullOK ops R i = true) (hi' : nthL ops.toList i = some o) (hw : Region.wanted o (yielded ops a.tmps) = true) (hQ : ∀ (u : Value) c a w, Q (.panic c) (a.put o.dst u) w → Q (.panic c) a w)
    (h : ∃ v, (∀ (C : World → Prop) w', o.quietAt P a C w' v) ∧ WA P ops Q (R.erase i) (a.put o.dst v) w) : WA P ops Q R a w := by
  obtain ⟨v, hq, h⟩ := h
  exact any_first i hok hi' hQ (fun hpk => pull_pure hpk hw hq) h
theorem any_pullS (i : Nat) (hok : pullOK ops R i = true) (hi' : nthL ops.toList i = some o) (hw : Region.wanted o (yielded ops a.tmps) = false) (hQ : ∀ (u : Value) c a w, Q (.panic c) (a.put o.dst u) w → Q (.panic c) a w)
    (h : WA P ops Q (R.erase i) (a.put o.dst undef) w) : WA P ops Q R a w := any_first i hok hi' hQ (fun _ => .inr ⟨hw, rfl⟩) h
theorem wa_put {d : Option Nat} {v : Value} {a2 : Act} (h : WA P ops Q R a2 w) (hput : a.put d v = a2 := by (conv => lhs; simp only [Act.put, List.setIfInBounds_toArray, List.set_cons_zero, List.set_cons_succ]); first | done | rfl) : WA P ops Q R (a.put d v) w := by rw [hput]; exact h
theorem lets_then {K : Act → World → Prop} (h : LetsOut (Exit.then K Q)) : LetsOut Q := by
  obtain ⟨a, w, h⟩ := h
  exact ⟨a, w, h⟩
theorem wp_thenK {K : Act → World → Prop} (h : o.wp P a w (wpList P ops (Exit.then K Q) []) (Exit.then K Q)) : o.wp P a w K Q := by
  unfold Oper.wp at h ⊢
  generalize (execOp a.eval o).run P w = r at *
  cases r with
  | ok n w' =>
    cases n <;> simp only [Oper.upon] at h ⊢
    case enter f args =>
      refine Calls.mono h fun e w'' he => ?_
      cases e with
      | returned v => exact he
      | panicked c => exact he
      | outgrown => exact lets_then he
    all_goals exact h
  | halt x w' => cases x <;> simp only [Oper.upon] at h ⊢ <;> exact h
theorem any_op {K : Act → World → Prop} {i : Nat} (hi' : nthL ops.toList i = some o) (h : wpList P ops (Exit.then K Q) [o] a w) : wpOp P ops Q i K a w := by
  have hi := nth_at hi'
  unfold wpOp
  rw [hi]
  unfold wpList at h
  simp only at h ⊢
  split
  · next hw =>
    rw [if_pos hw] at h
    exact h.imp wp_thenK fun h2 => ⟨h2.1, lets_then h2.2⟩
  · next hw =>
    rw [if_neg hw] at h
    exact h
theorem any_turn (i : Nat) (hok : turnOK ops R i = true) (hi' : nthL ops.toList i = some o) (h : wpList P ops (Exit.then (WA P ops Q (R.erase i)) Q) [o] a w) : WA P ops Q R a w := by
  unfold turnOK at hok
  simp only [Bool.and_eq_true, beq_iff_eq] at hok
  obtain ⟨⟨hrd, hset⟩, hlen⟩ := hok
  unfold WA at h ⊢
  rw [hlen]
  refine ⟨fun h0 => (by rw [hrd] at h0; cases h0), fun k hk => ?_⟩
  rw [hrd, List.mem_singleton] at hk
  subst hk
  rw [hset]
  exact any_op hi' h
theorem any_turn2 {o2 : Oper} (i j : Nat) (hok : turn2OK ops R i j = true) (hi' : nthL ops.toList i = some o) (hj' : nthL ops.toList j = some o2) (h1 : wpList P ops (Exit.then (WA P ops Q (R.erase i)) Q) [o] a w) (h2 : wpList P ops (Exit.then (WA P ops Q (R.erase j)) Q) [o2] a w) : WA P ops Q R a w := by
  unfold turn2OK at hok
  simp only [Bool.and_eq_true, beq_iff_eq] at hok
  obtain ⟨⟨⟨⟨hrd, hset1⟩, hset2⟩, hlen1⟩, hlen2⟩ := hok
  unfold WA at h1 h2 ⊢
  rw [hlen1]
  rw [← Nat.succ_inj.1 (hlen1.symm.trans hlen2)] at h2
  refine ⟨fun h0 => (by rw [hrd] at h0; cases h0), fun k hk => ?_⟩
  rw [hrd] at hk
  rcases List.mem_cons.1 hk with rfl | hk
  · rw [hset1]
    exact any_op hi' h1
  · rw [List.mem_singleton] at hk
    subst hk
    rw [hset2]
    exact any_op hj' h2
end
end Go.Proofs.Ytkfggilildiflab

namespace Go.Proofs.Ytkfggilildiflab
open Go.ChangeShapes Go.WideShapes Go.ChangeAt Go.RowKit
attribute [local irreducible] wpList wpListIn Oper.quietAt wpM
attribute [local irreducible] xorL sboxL subB sealV openV
instance : ZeroT Try.prog 81 (bvs (zs 64)) := ⟨by kernel_rfl⟩
instance : StT Try.prog 81 [(0, 32), (32, 32)] ((zs 64).map bv) := ⟨by kernel_rfl⟩
instance : AtT Try.prog 31 1 ((zs 128).map bv) := ⟨by kernel_rfl⟩
set_option maxRecDepth 100000 in
theorem keysOf_bad (p : Option Addr) (n c : Nat) (hn : ¬ n = 64) (w0 : World) :
    Calls Try.prog 33 #[.slice p n c] w0 fun e w' => e = .returned (.tuple #[.agg (bvs (zs 64)), .iface 39 (.int .i64 3)]) ∧ Below w0.heap.size w0 w' := by
  have hS := St.start w0
  go_enter Try.func33, Try.ntmps33
  repeat' (first | ((with_reducible refine cons_list ?_); first | ((first | refine g_skip stp_list ?_ | refine g_move stp_list ?_ | refine g_assign stp_list ?_ | refine g_load1 stp_list own_st hS ?_ | refine g_loadR stp_list own_st hS ?_ | refine g_indexAddr stp_list ?_ | refine g_indexAddrA stp_list ?_ | refine g_len stp_list ?_ | refine g_cap stp_list ?_ | refine g_extract stp_list ?_ | refine g_add stp_list ?_ | refine g_sub stp_list ?_ | refine g_mul stp_list ?_ | refine g_quo stp_list ?_ | refine g_rem stp_list ?_ | refine g_cmp_t stp_list ?_ | refine g_cmp_f stp_list ?_ | refine g_cmp stp_list (fun hc => ?_) (fun hc => ?_) | refine g_neqNil stp_list ?_ | refine g_neqNil0 stp_list ?_ | refine g_eqlNil stp_list ?_ | refine g_eqlNil0 stp_list ?_ | refine g_fieldAddr stp_list ?_ | refine g_field1 stp_list ?_ | refine g_fieldR stp_list ?_ | refine g_eqlSlNil stp_list ?_ | refine g_neqSlNil stp_list ?_ | refine g_makeInterface stp_list ?_ | refine g_makeFunc stp_list ?_ | refine g_conv stp_list ?_ | refine g_pick stp_list ?_ | refine g_not stp_list ?_ | refine g_slice stp_list ?_ | refine g_sliceA stp_list ?_ | refine g_sliceNil stp_list ?_ | refine g_nilCheck stp_list ?_ | refine g_builtS stp_list ?_ | refine g_builtA stp_list ?_) <;> refine put_in ?_) | ((first | refine g_alloc stp_list own_st hS ?_ | refine g_box stp_list own_st hS ?_ | refine g_build0 stp_list own_st hS ?_ | refine g_build stp_list own_st hS ?_ | refine g_make stp_list own_st hS ?_); clear hS; intro b w hS; refine put_in ?_) | ((first | refine g_store1 stp_list own_st hS ?_ | refine g_storeR stp_list own_st hS ?_ | refine g_storeRO stp_list own_st hS ?_); clear hS; intro w hS; refine put_in ?_)) | ((fail_if_success (with_reducible refine cons_list ?_)); first | go_step | go_step3 | rw [Exit.noGoto_normal] | rw [Exit.noGoto_ret] | rw [Exit.noGoto_exit]))
  exact post_cell_tmp (n := 64) Try.results33 (by kernel_rfl) (.inl rfl) _ _ _ _ rfl rfl (hS.blk 0 rfl) (by rw [← csz_is]; exact (show csz (bvs (zs 64)) = 64 by rw [csz_bvs, zs_len])) ⟨rfl, hS.below⟩
set_option maxRecDepth 100000 in
theorem keysOf_good (u : List UInt8) (hb : u.length = 64) (v : Value) (w0 : World) (hv : BytesAt w0 v u) :
    Calls Try.prog 33 #[v] w0 fun e w' => e = .returned (.tuple #[.agg (bvs u), .nilIface]) ∧ Below w0.heap.size w0 w' := by
  obtain ⟨p, c, rfl, hc⟩ := hv.slice
  obtain ⟨kb, kO, rfl⟩ := hv.ptr (by omega)
  have hvf := hv.from 32 (by omega)
  rw [hb] at hc hv hvf ⊢
  have hS := St.start w0
  have l1 : (u.take 32).length = 32 := by rw [List.length_take]; omega
  have l2 : ((u.drop 32).take 32).length = 32 := by rw [List.length_take, List.length_drop]; omega
  have l3 : (u.drop 32).take 32 = u.drop 32 := List.take_of_length_le (by rw [List.length_drop]; omega)
  go_enter Try.func33, Try.ntmps33
  repeat' (first | ((with_reducible refine cons_list ?_); first | ((first | refine g_skip stp_list ?_ | refine g_move stp_list ?_ | refine g_assign stp_list ?_ | refine g_load1 stp_list own_st hS ?_ | refine g_loadR stp_list own_st hS ?_ | refine g_indexAddr stp_list ?_ | refine g_indexAddrA stp_list ?_ | refine g_len stp_list ?_ | refine g_cap stp_list ?_ | refine g_extract stp_list ?_ | refine g_add stp_list ?_ | refine g_sub stp_list ?_ | refine g_mul stp_list ?_ | refine g_quo stp_list ?_ | refine g_rem stp_list ?_ | refine g_cmp_t stp_list ?_ | refine g_cmp_f stp_list ?_ | refine g_cmp stp_list (fun hc => ?_) (fun hc => ?_) | refine g_neqNil stp_list ?_ | refine g_neqNil0 stp_list ?_ | refine g_eqlNil stp_list ?_ | refine g_eqlNil0 stp_list ?_ | refine g_fieldAddr stp_list ?_ | refine g_field1 stp_list ?_ | refine g_fieldR stp_list ?_ | refine g_eqlSlNil stp_list ?_ | refine g_neqSlNil stp_list ?_ | refine g_makeInterface stp_list ?_ | refine g_makeFunc stp_list ?_ | refine g_conv stp_list ?_ | refine g_pick stp_list ?_ | refine g_not stp_list ?_ | refine g_slice stp_list ?_ | refine g_sliceA stp_list ?_ | refine g_sliceNil stp_list ?_ | refine g_nilCheck stp_list ?_ | refine g_builtS stp_list ?_ | refine g_builtA stp_list ?_) <;> refine put_in ?_) | ((first | refine g_alloc stp_list own_st hS ?_ | refine g_box stp_list own_st hS ?_ | refine g_build0 stp_list own_st hS ?_ | refine g_build stp_list own_st hS ?_ | refine g_make stp_list own_st hS ?_); clear hS; intro b w hS; refine put_in ?_) | ((first | refine g_store1 stp_list own_st hS ?_ | refine g_storeR stp_list own_st hS ?_ | refine g_storeRO stp_list own_st hS ?_); clear hS; intro w hS; refine put_in ?_)) | ((fail_if_success (with_reducible refine cons_list ?_)); first | go_step | go_step3 | rw [Exit.noGoto_normal] | rw [Exit.noGoto_ret] | rw [Exit.noGoto_exit]))
  refine s_copy (i := 0) stp_list own_st hS (by rfl) (by rfl) (by rfl) (by rfl) (by infer_instance) (by rfl) (hv.below hS.below) (by rw [l1, csz_bvs, zs_len]; omega) (cs2 := bvs (u.take 32 ++ zs 32)) (by
    rw [ovw_bvs, l1, List.take_zero, List.nil_append, show (zs 64).drop (0 + 32) = zs 32 by unfold zs; rw [List.drop_replicate]]) (by (try conv => lhs; simp only [List.set_cons_zero, List.set_cons_succ, List.eraseIdx_cons_zero, List.eraseIdx_cons_succ]); first | done | rfl) (show (((u.take 32).length : Nat) : Int) = 32 by rw [l1]; rfl) ?_
  clear hS
  intro w hS
  refine put_in ?_
  repeat' (first | ((with_reducible refine cons_list ?_); first | ((first | refine g_skip stp_list ?_ | refine g_move stp_list ?_ | refine g_assign stp_list ?_ | refine g_load1 stp_list own_st hS ?_ | refine g_loadR stp_list own_st hS ?_ | refine g_indexAddr stp_list ?_ | refine g_indexAddrA stp_list ?_ | refine g_len stp_list ?_ | refine g_cap stp_list ?_ | refine g_extract stp_list ?_ | refine g_add stp_list ?_ | refine g_sub stp_list ?_ | refine g_mul stp_list ?_ | refine g_quo stp_list ?_ | refine g_rem stp_list ?_ | refine g_cmp_t stp_list ?_ | refine g_cmp_f stp_list ?_ | refine g_cmp stp_list (fun hc => ?_) (fun hc => ?_) | refine g_neqNil stp_list ?_ | refine g_neqNil0 stp_list ?_ | refine g_eqlNil stp_list ?_ | refine g_eqlNil0 stp_list ?_ | refine g_fieldAddr stp_list ?_ | refine g_field1 stp_list ?_ | refine g_fieldR stp_list ?_ | refine g_eqlSlNil stp_list ?_ | refine g_neqSlNil stp_list ?_ | refine g_makeInterface stp_list ?_ | refine g_makeFunc stp_list ?_ | refine g_conv stp_list ?_ | refine g_pick stp_list ?_ | refine g_not stp_list ?_ | refine g_slice stp_list ?_ | refine g_sliceA stp_list ?_ | refine g_sliceNil stp_list ?_ | refine g_nilCheck stp_list ?_ | refine g_builtS stp_list ?_ | refine g_builtA stp_list ?_) <;> refine put_in ?_) | ((first | refine g_alloc stp_list own_st hS ?_ | refine g_box stp_list own_st hS ?_ | refine g_build0 stp_list own_st hS ?_ | refine g_build stp_list own_st hS ?_ | refine g_make stp_list own_st hS ?_); clear hS; intro b w hS; refine put_in ?_) | ((first | refine g_store1 stp_list own_st hS ?_ | refine g_storeR stp_list own_st hS ?_ | refine g_storeRO stp_list own_st hS ?_); clear hS; intro w hS; refine put_in ?_)) | ((fail_if_success (with_reducible refine cons_list ?_)); first | go_step | go_step3 | rw [Exit.noGoto_normal] | rw [Exit.noGoto_ret] | rw [Exit.noGoto_exit]))
  refine region_mono_lit 5 (by kernel_rfl) (by kernel_rfl) ?_
  dsimp only [List.take, List.drop]
  iterate 5 (first | (refine wpM_skip (fun _ => rfl) ?_; simp only [Act.put, List.setIfInBounds_toArray, List.set_cons_zero, List.set_cons_succ]) | (refine wpM_alloc rfl (fun _ => rfl) _ (fun w => r_alloc (a := ⟨#[], []⟩) rfl (by infer_instance)) ?_; simp only [Act.put, List.setIfInBounds_toArray, List.set_cons_zero, List.set_cons_succ]) | (refine wpM_slice' rfl (fun _ => rfl) (fun K hK => ?_); apply Exists.intro; apply Exists.intro; apply Exists.intro; apply Exists.intro; refine ⟨fun pB w' hw' hF => ?_, hK _ _ ?_⟩; (focus (exact r_buildSlice (by rfl) (by rfl) (by infer_instance) (by rfl) (by repeat (first | exact (fun _ h => absurd h List.not_mem_nil) | refine List.forall_mem_cons.2 ⟨by first | rfl | (simp only [Value.cells]; first | rfl | omega), ?_⟩)) (by (try conv => lhs; simp only [List.flatMap_cons, List.flatMap_nil, Value.cells, List.append_nil, List.cons_append, List.nil_append]); first | done | rfl) (by decide) (by decide))); clear hK K; simp only [Act.put, List.setIfInBounds_toArray, List.set_cons_zero, List.set_cons_succ]) | (refine wpM_want (fun _ => rfl) (fun K hK => ?_); apply Exists.intro; refine ⟨fun pB w' hw' hF => ?_, hK _ _ ?_⟩; (focus (have hZ := (own_st).call hS hw'; first | exact q_move | exact q_assign | exact q_load1 own_st hZ | exact q_loadR own_st hZ | exact q_indexAddr | exact q_indexAddrA | exact q_len | exact q_cap | exact q_extract | exact q_add | exact q_sub | exact q_mul | exact q_quo | exact q_rem | exact q_cmp_t | exact q_cmp_f | exact q_neqNil | exact q_neqNil0 | exact q_eqlNil | exact q_eqlNil0 | exact q_fieldAddr | exact q_field1 | exact q_fieldR | exact q_eqlSlNil | exact q_neqSlNil | exact q_makeInterface | exact q_makeFunc | exact q_conv | exact q_pick | exact q_not | exact q_slice | exact q_sliceA | exact q_sliceNil | exact q_builtS | exact q_builtA | exact q_nilCheck)); clear hK K; simp only [Act.put, List.setIfInBounds_toArray, List.set_cons_zero, List.set_cons_succ]))
  refine wpM_nil ?_
  intro pB w hcq hfq hnq
  replace hS := (own_st).news hS hcq _ (by first | decide | simp) hfq hnq
  first | simp only [List.map_nil, List.nil_append] at hS | simp only [List.map_cons, List.map_nil, List.cons_append, List.nil_append] at hS
  clear hcq hfq hnq
  try dsimp only
  refine s_copy (i := 0) stp_list own_st hS (by rfl) (by rfl) (by rfl) (by rfl) (by infer_instance) (by rfl) (hvf.below hS.below) (by rw [l2, csz_bvs, List.length_append, l1, zs_len]; omega) (cs2 := bvs u) (by
    rw [ovw_bvs, l2, l3, List.take_left' l1, show (u.take 32 ++ zs 32).drop (32 + 32) = [] from List.drop_of_length_le (by rw [List.length_append, l1, zs_len]; omega), List.append_nil, List.take_append_drop]) (by (try conv => lhs; simp only [List.set_cons_zero, List.set_cons_succ, List.eraseIdx_cons_zero, List.eraseIdx_cons_succ]); first | done | rfl) rfl ?_
  clear hS
  intro w hS
  refine put_in ?_
  repeat' (first | ((with_reducible refine cons_list ?_); first | ((first | refine g_skip stp_list ?_ | refine g_move stp_list ?_ | refine g_assign stp_list ?_ | refine g_load1 stp_list own_st hS ?_ | refine g_loadR stp_list own_st hS ?_ | refine g_indexAddr stp_list ?_ | refine g_indexAddrA stp_list ?_ | refine g_len stp_list ?_ | refine g_cap stp_list ?_ | refine g_extract stp_list ?_ | refine g_add stp_list ?_ | refine g_sub stp_list ?_ | refine g_mul stp_list ?_ | refine g_quo stp_list ?_ | refine g_rem stp_list ?_ | refine g_cmp_t stp_list ?_ | refine g_cmp_f stp_list ?_ | refine g_cmp stp_list (fun hc => ?_) (fun hc => ?_) | refine g_neqNil stp_list ?_ | refine g_neqNil0 stp_list ?_ | refine g_eqlNil stp_list ?_ | refine g_eqlNil0 stp_list ?_ | refine g_fieldAddr stp_list ?_ | refine g_field1 stp_list ?_ | refine g_fieldR stp_list ?_ | refine g_eqlSlNil stp_list ?_ | refine g_neqSlNil stp_list ?_ | refine g_makeInterface stp_list ?_ | refine g_makeFunc stp_list ?_ | refine g_conv stp_list ?_ | refine g_pick stp_list ?_ | refine g_not stp_list ?_ | refine g_slice stp_list ?_ | refine g_sliceA stp_list ?_ | refine g_sliceNil stp_list ?_ | refine g_nilCheck stp_list ?_ | refine g_builtS stp_list ?_ | refine g_builtA stp_list ?_) <;> refine put_in ?_) | ((first | refine g_alloc stp_list own_st hS ?_ | refine g_box stp_list own_st hS ?_ | refine g_build0 stp_list own_st hS ?_ | refine g_build stp_list own_st hS ?_ | refine g_make stp_list own_st hS ?_); clear hS; intro b w hS; refine put_in ?_) | ((first | refine g_store1 stp_list own_st hS ?_ | refine g_storeR stp_list own_st hS ?_ | refine g_storeRO stp_list own_st hS ?_); clear hS; intro w hS; refine put_in ?_)) | ((fail_if_success (with_reducible refine cons_list ?_)); first | go_step | go_step3 | rw [Exit.noGoto_normal] | rw [Exit.noGoto_ret] | rw [Exit.noGoto_exit]))
  have s1 : csz (bvs u) = 64 := by rw [csz_bvs, hb]
  exact post_cell_tmp (n := 64) Try.results33 (by kernel_rfl) (.inl rfl) _ _ _ _ rfl rfl (hS.blk 1 rfl) (by rw [← csz_is]; exact s1) ⟨rfl, hS.below⟩
set_option maxRecDepth 100000 in
theorem fill_good (l : List UInt8) (hl : l.length ≤ 128) (v : Value) (w0 : World) (hv : BytesAt w0 v l) :
    Calls Try.prog 62 #[v] w0 fun e w' => e = .returned (.tuple #[.agg (bvs (l ++ zs (128 - l.length))), .nilIface]) ∧ Below w0.heap.size w0 w' := by
  obtain ⟨p, c, rfl, hc⟩ := hv.slice
  have hS := St.start w0
  have l1 : l.take 128 = l := List.take_of_length_le hl
  have s1 : csz (bvs (l ++ zs (128 - l.length))) = 128 := by rw [csz_bvs, List.length_append, zs_len]; omega
  go_enter Try.func62, Try.ntmps62
  repeat' (first | ((with_reducible refine cons_list ?_); first | ((first | refine g_skip stp_list ?_ | refine g_move stp_list ?_ | refine g_assign stp_list ?_ | refine g_load1 stp_list own_st hS ?_ | refine g_loadR stp_list own_st hS ?_ | refine g_indexAddr stp_list ?_ | refine g_indexAddrA stp_list ?_ | refine g_len stp_list ?_ | refine g_cap stp_list ?_ | refine g_extract stp_list ?_ | refine g_add stp_list ?_ | refine g_sub stp_list ?_ | refine g_mul stp_list ?_ | refine g_quo stp_list ?_ | refine g_rem stp_list ?_ | refine g_cmp_t stp_list ?_ | refine g_cmp_f stp_list ?_ | refine g_cmp stp_list (fun hc => ?_) (fun hc => ?_) | refine g_neqNil stp_list ?_ | refine g_neqNil0 stp_list ?_ | refine g_eqlNil stp_list ?_ | refine g_eqlNil0 stp_list ?_ | refine g_fieldAddr stp_list ?_ | refine g_field1 stp_list ?_ | refine g_fieldR stp_list ?_ | refine g_eqlSlNil stp_list ?_ | refine g_neqSlNil stp_list ?_ | refine g_makeInterface stp_list ?_ | refine g_makeFunc stp_list ?_ | refine g_conv stp_list ?_ | refine g_pick stp_list ?_ | refine g_not stp_list ?_ | refine g_slice stp_list ?_ | refine g_sliceA stp_list ?_ | refine g_sliceNil stp_list ?_ | refine g_nilCheck stp_list ?_ | refine g_builtS stp_list ?_ | refine g_builtA stp_list ?_) <;> refine put_in ?_) | ((first | refine g_alloc stp_list own_st hS ?_ | refine g_box stp_list own_st hS ?_ | refine g_build0 stp_list own_st hS ?_ | refine g_build stp_list own_st hS ?_ | refine g_make stp_list own_st hS ?_); clear hS; intro b w hS; refine put_in ?_) | ((first | refine g_store1 stp_list own_st hS ?_ | refine g_storeR stp_list own_st hS ?_ | refine g_storeRO stp_list own_st hS ?_); clear hS; intro w hS; refine put_in ?_)) | ((fail_if_success (with_reducible refine cons_list ?_)); first | go_step | go_step3 | rw [Exit.noGoto_normal] | rw [Exit.noGoto_ret] | rw [Exit.noGoto_exit]))
  refine s_copy (i := 0) stp_list own_st hS (by rfl) (by rfl) (by rfl) (by rfl) (by infer_instance) (by rfl) (hv.below hS.below) (by rw [l1, csz_bvs, zs_len]; omega) (cs2 := bvs (l ++ zs (128 - l.length))) (by
    rw [ovw_bvs, l1, List.take_zero, List.nil_append]; congr 2; unfold zs; rw [List.drop_replicate, Nat.zero_add]) (by (try conv => lhs; simp only [List.set_cons_zero, List.set_cons_succ, List.eraseIdx_cons_zero, List.eraseIdx_cons_succ]); first | done | rfl) rfl ?_
  clear hS
  intro w hS
  refine put_in ?_
  repeat' (first | ((with_reducible refine cons_list ?_); first | ((first | refine g_skip stp_list ?_ | refine g_move stp_list ?_ | refine g_assign stp_list ?_ | refine g_load1 stp_list own_st hS ?_ | refine g_loadR stp_list own_st hS ?_ | refine g_indexAddr stp_list ?_ | refine g_indexAddrA stp_list ?_ | refine g_len stp_list ?_ | refine g_cap stp_list ?_ | refine g_extract stp_list ?_ | refine g_add stp_list ?_ | refine g_sub stp_list ?_ | refine g_mul stp_list ?_ | refine g_quo stp_list ?_ | refine g_rem stp_list ?_ | refine g_cmp_t stp_list ?_ | refine g_cmp_f stp_list ?_ | refine g_cmp stp_list (fun hc => ?_) (fun hc => ?_) | refine g_neqNil stp_list ?_ | refine g_neqNil0 stp_list ?_ | refine g_eqlNil stp_list ?_ | refine g_eqlNil0 stp_list ?_ | refine g_fieldAddr stp_list ?_ | refine g_field1 stp_list ?_ | refine g_fieldR stp_list ?_ | refine g_eqlSlNil stp_list ?_ | refine g_neqSlNil stp_list ?_ | refine g_makeInterface stp_list ?_ | refine g_makeFunc stp_list ?_ | refine g_conv stp_list ?_ | refine g_pick stp_list ?_ | refine g_not stp_list ?_ | refine g_slice stp_list ?_ | refine g_sliceA stp_list ?_ | refine g_sliceNil stp_list ?_ | refine g_nilCheck stp_list ?_ | refine g_builtS stp_list ?_ | refine g_builtA stp_list ?_) <;> refine put_in ?_) | ((first | refine g_alloc stp_list own_st hS ?_ | refine g_box stp_list own_st hS ?_ | refine g_build0 stp_list own_st hS ?_ | refine g_build stp_list own_st hS ?_ | refine g_make stp_list own_st hS ?_); clear hS; intro b w hS; refine put_in ?_) | ((first | refine g_store1 stp_list own_st hS ?_ | refine g_storeR stp_list own_st hS ?_ | refine g_storeRO stp_list own_st hS ?_); clear hS; intro w hS; refine put_in ?_)) | ((fail_if_success (with_reducible refine cons_list ?_)); first | go_step | go_step3 | rw [Exit.noGoto_normal] | rw [Exit.noGoto_ret] | rw [Exit.noGoto_exit]))
  exact post_cell_tmp (n := 128) Try.results62 (by kernel_rfl) (.inl rfl) _ _ _ _ rfl rfl (hS.blk 1 rfl) (by rw [← csz_is]; exact s1) ⟨rfl, hS.below⟩
end Go.Proofs.Ytkfggilildiflab
