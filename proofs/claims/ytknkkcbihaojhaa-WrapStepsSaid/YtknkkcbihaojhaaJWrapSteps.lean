/-
  The law WrapSteps: for every two numbers it answers true. No condition.
-/
import Derived.Test.YtknkkcbihaojhaaRows
import Derived.Lib.MinMax
import Derived.Test.YtknkkcbihaojhaaJD1

namespace Go.Proofs.Ytknkkcbihaojhaa
open Go.ChangeShapes Go.WideShapes Go.ChangeAt Go.RowKit
theorem postM2 {P : Program} {fn : Func} {R : Ending → World → Prop} {a : Act} {w : World} {e : Exit} {D D2 : Nat} (he : e = .ret ∨ e = .normal) (hd : a.defers = [{ target := .collected D2, args := #[] }, { target := .collected D, args := #[] }]) (hk2 : w.heap[D2]? = some (.deferred (some []))) (hk : (w.putObj D2 (.deferred none)).heap[D]? = some (.deferred (some [])))
    (h : bodyPost P fn R .ret { a with defers := [] } ((w.putObj D2 (.deferred none)).putObj D (.deferred none))) : bodyPostM Fence.wide 0 P fn R e a w := by
  obtain ⟨_, v, hr, hR⟩ := h
  have key : LeavesInM Fence.wide 0 P fn a.tmps R a.defers .returning w := by
    rw [hd]
    exact ⟨by simp, .inl ⟨D2, _, rfl, run_takeDeferred hk2, by simp, .inl ⟨D, _, rfl, run_takeDeferred hk, v, hr, hR⟩⟩⟩
  rcases he with rfl | rfl
  · exact key
  · exact key
def StDD (w0 : World) (D D2 : Nat) (w : World) (L : List Blk) : Prop := StD w0 D w L ∧ w.heap[D2]? = some (.deferred (some []))
theorem own_stDD {w0 : World} {D D2 : Nat} : Own w0.heap.size (StDD w0 D D2) where
  blk := fun i _ _ _ h hi => h.1.1.blk i hi
  call := fun h hb => ⟨own_stD.call h.1 hb, (hb.block D2 (Array.getElem?_eq_some_iff.1 h.2).1).trans h.2⟩
  alloc := fun cs t h => ⟨own_stD.alloc cs t h.1, (Below.heap_alloc _ _ _ (Array.getElem?_eq_some_iff.1 h.2).1).trans h.2⟩
  setRow := fun {w} {L} i {b} {cs} {t} cs' h hi => ⟨own_stD.setRow i cs' h.1 hi, (setRow_other w b D2 cs' (fun e => by
    have h1 : w.heap[b]? = some (.cells cs t (0, 0)) := h.1.1.blk i hi
    rw [← e, h.2] at h1
    cases h1)).trans h.2⟩
  size := fun h => h.1.1.1.size
  add := fun h hB hn hb => ⟨own_stD.add h.1 hB hn hb, h.2⟩
  nodup := fun h => h.1.1.2.2
  sub := fun h hx hn => ⟨own_stD.sub h.1 hx hn, h.2⟩
theorem StDD.far {w0 wr : World} {D D2 : Nat} {L : List Blk} (h : StDD w0 D D2 wr L) {b : Nat} {cs : Array Value} {t : TypeId} {fr : Nat × Nat} (hb : Go.Proofs.Ytknkkcbihaojhaa.blk w0 b = some (.cells cs t fr)) : Go.Proofs.Ytknkkcbihaojhaa.blk wr b = some (.cells cs t fr) ∧ (∀ o, wr.cell? ⟨b, o, none⟩ = cs[o]?) ∧ b < w0.heap.size ∧ b < wr.heap.size ∧ ¬ b = wr.heap.size := h.1.1.far hb
theorem StD.notin {w0 w : World} {D : Nat} {L : List Blk} (h : StD w0 D w L) : D ∉ L.map (·.1) := by
  intro hm
  obtain ⟨x, hx, hxd⟩ := List.mem_map.1 hm
  have h1 : w.heap[x.1]? = some (.cells x.2.1 x.2.2 (0, 0)) := (h.1.2.1 x hx).2
  rw [hxd, h.2] at h1
  cases h1
/-- Both marks are shut. -/
theorem StDD.mark {w0 wr : World} {D D2 : Nat} {L : List Blk} (h : StDD w0 D D2 wr L) (hn : D ≠ D2) : (wr.putObj D2 (.deferred none)).heap[D]? = some (.deferred (some [])) := (World.putObj_heap_other hn).trans h.1.2
theorem StDD.shut {w0 wr : World} {D D2 : Nat} {L : List Blk} (h : StDD w0 D D2 wr L) (hn : D ≠ D2) (h0 : w0.heap.size ≤ D) (h2 : w0.heap.size ≤ D2) : St w0 ((wr.putObj D2 (.deferred none)).putObj D (.deferred none)) L :=
  (h.1.1.shut h.2 (fun _ _ _ e => by cases e) h2 _).shut (h.mark hn) (fun _ _ _ e => by cases e) h0 _
theorem In.heap {L0 L : List Blk} {w W : World} (h : In L0 w L W) {k : Nat} {o : Obj} (hk : w.heap[k]? = some o) (hn : k ∉ L0.map (·.1)) : W.heap[k]? = some o :=
  (h.rd.kept.block k (Array.getElem?_eq_some_iff.1 hk).1 (by rw [objs_keys]; exact hn)).trans hk
section
variable {P : Program} {o : Oper} {a : Act} {w : World}
theorem r_mulW {t t' : TypeId} {x y : Operand} {k : IntKind} {m n q : Int} (hq : k.wrap (m * n) = q) (hop : o.op = .binOp .mul t x y t') (hx : evO a x = some (.int k m)) (hy : evO a y = some (.int k n)) : (execOp a.eval o).run P w = .ok (.value (.int k q)) w := by
  unfold execOp; rw [hop]; subst hq
  simp [evO_eval hx, evO_eval hy, Sem.run_bind, eqGuard, binOp, Op.intArith]
theorem r_maxI {ts : Array TypeId} {x y : Operand} {k k' : IntKind} {m n q : Int} (hop : o.op = .call { callee := .builtin .max, args := #[x, y], argTypes := ts }) (hx : evO a x = some (.int k m)) (hy : evO a y = some (.int k' n)) (hq : max m n = q) : (execOp a.eval o).run P w = .ok (.value (.int k q)) w := by
  unfold execOp; rw [hop]; subst hq
  have e1 : #[x, y].map a.eval = #[.int k m, .int k' n] := by simp [evO_eval hx, evO_eval hy]
  simp only [resolve, Sem.run_bind, Sem.run_pure, Result.andThen_ok, invoke, builtin, e1, Go.Lib.run_max_ints]
theorem r_minI {ts : Array TypeId} {x y : Operand} {k k' : IntKind} {m n q : Int} (hop : o.op = .call { callee := .builtin .min, args := #[x, y], argTypes := ts }) (hx : evO a x = some (.int k m)) (hy : evO a y = some (.int k' n)) (hq : min m n = q) : (execOp a.eval o).run P w = .ok (.value (.int k q)) w := by
  unfold execOp; rw [hop]; subst hq
  have e1 : #[x, y].map a.eval = #[.int k m, .int k' n] := by simp [evO_eval hx, evO_eval hy]
  simp only [resolve, Sem.run_bind, Sem.run_pure, Result.andThen_ok, invoke, builtin, e1, Go.Lib.run_min_ints]
end
end Go.Proofs.Ytknkkcbihaojhaa

namespace Go.Proofs.Ytknkkcbihaojhaa
open Go.ChangeShapes Go.WideShapes Go.ChangeAt Go.RowKit
attribute [local irreducible] wpList wpListIn
set_option maxRecDepth 100000 in
set_option maxHeartbeats 8000000 in
theorem wrapSteps_any (n most : Int) (w0 : World) : Calls Try.prog 9 #[.int .i64 n, .int .i64 most] w0 fun e w' => e = .returned (.bool true) ∧ Below w0.heap.size w0 w' := by
  obtain ⟨q, hq⟩ : ∃ q, IntKind.i64.wrap (6 * n) = q := ⟨_, rfl⟩
  obtain ⟨u, hu⟩ : ∃ u : Nat, (most % 18446744073709551616).toNat = u := ⟨_, rfl⟩
  obtain ⟨m, hm⟩ : ∃ m : Nat, 1 + (u : Int) % 500 = (m : Int) := ⟨1 + u % 500, by omega⟩
  have hm1 : 1 ≤ m ∧ m ≤ 500 := by omega
  have hS := St.start w0
  refine calls_of_marks Try.func9 rfl ?_
  simp only [Try.ntmps9, List.size_toArray, List.length_cons, List.length_nil, Nat.reduceAdd, Nat.reduceSub, Array.replicate_succ, Array.replicate_zero, List.push_toArray, List.append_toArray, List.nil_append, List.cons_append]
  repeat' (first | ((with_reducible refine cons_list ?_); first | ((first | refine g_skip stp_list ?_ | refine g_move stp_list ?_ | refine g_assign stp_list ?_ | refine g_load1 stp_list own_st hS ?_ | refine g_loadR stp_list own_st hS ?_ | refine g_indexAddr stp_list ?_ | refine g_indexAddrA stp_list ?_ | refine g_len stp_list ?_ | refine g_cap stp_list ?_ | refine g_extract stp_list ?_ | refine g_add stp_list ?_ | refine g_sub stp_list ?_ | refine g_mul stp_list ?_ | refine g_quo stp_list ?_ | refine g_rem stp_list ?_ | refine g_cmp_t stp_list ?_ | refine g_cmp_f stp_list ?_ | refine g_cmp stp_list (fun hc => ?_) (fun hc => ?_) | refine g_neqNil stp_list ?_ | refine g_neqNil0 stp_list ?_ | refine g_eqlNil stp_list ?_ | refine g_eqlNil0 stp_list ?_ | refine g_fieldAddr stp_list ?_ | refine g_field1 stp_list ?_ | refine g_fieldR stp_list ?_ | refine g_eqlSlNil stp_list ?_ | refine g_neqSlNil stp_list ?_ | refine g_makeInterface stp_list ?_ | refine g_makeFunc stp_list ?_ | refine g_conv stp_list ?_ | refine g_pick stp_list ?_ | refine g_not stp_list ?_ | refine g_slice stp_list ?_ | refine g_sliceA stp_list ?_ | refine g_sliceNil stp_list ?_) <;> refine put_in ?_) | ((first | refine g_alloc stp_list own_st hS ?_ | refine g_box stp_list own_st hS ?_ | refine g_build0 stp_list own_st hS ?_ | refine g_build stp_list own_st hS ?_ | refine g_make stp_list own_st hS ?_); clear hS; intro b w hS; refine put_in ?_) | ((first | refine g_store1 stp_list own_st hS ?_ | refine g_storeR stp_list own_st hS ?_); clear hS; intro w hS; refine put_in ?_)) | ((fail_if_success (with_reducible refine cons_list ?_)); first | go_step | go_step3 | rw [Exit.noGoto_normal] | rw [Exit.noGoto_ret] | rw [Exit.noGoto_exit]))
  (refine g_callq stp_list own_st hS (alive7_any _) ?_; clear hS; intro w hS; refine put_in ?_)
  by_cases hn : 2 ≤ n ∧ n ≤ 64
  · obtain ⟨nn, rfl⟩ : ∃ nn : Nat, n = nn := ⟨n.toNat, by omega⟩
    clear hq
    repeat' (first | ((with_reducible refine cons_list ?_); first | ((first | refine g_skip stp_list ?_ | refine g_move stp_list ?_ | refine g_assign stp_list ?_ | refine g_load1 stp_list own_st hS ?_ | refine g_loadR stp_list own_st hS ?_ | refine g_indexAddr stp_list ?_ | refine g_indexAddrA stp_list ?_ | refine g_len stp_list ?_ | refine g_cap stp_list ?_ | refine g_extract stp_list ?_ | refine g_add stp_list ?_ | refine g_sub stp_list ?_ | refine g_mul stp_list ?_ | refine g_quo stp_list ?_ | refine g_rem stp_list ?_ | refine g_cmp_t stp_list ?_ | refine g_cmp_f stp_list ?_ | refine g_cmp stp_list (fun hc => ?_) (fun hc => ?_) | refine g_neqNil stp_list ?_ | refine g_neqNil0 stp_list ?_ | refine g_eqlNil stp_list ?_ | refine g_eqlNil0 stp_list ?_ | refine g_fieldAddr stp_list ?_ | refine g_field1 stp_list ?_ | refine g_fieldR stp_list ?_ | refine g_eqlSlNil stp_list ?_ | refine g_neqSlNil stp_list ?_ | refine g_makeInterface stp_list ?_ | refine g_makeFunc stp_list ?_ | refine g_conv stp_list ?_ | refine g_pick stp_list ?_ | refine g_not stp_list ?_ | refine g_slice stp_list ?_ | refine g_sliceA stp_list ?_ | refine g_sliceNil stp_list ?_) <;> refine put_in ?_) | ((first | refine g_alloc stp_list own_st hS ?_ | refine g_box stp_list own_st hS ?_ | refine g_build0 stp_list own_st hS ?_ | refine g_build stp_list own_st hS ?_ | refine g_make stp_list own_st hS ?_); clear hS; intro b w hS; refine put_in ?_) | ((first | refine g_store1 stp_list own_st hS ?_ | refine g_storeR stp_list own_st hS ?_); clear hS; intro w hS; refine put_in ?_) | (refine Stp.go stp_list (by rfl) (by rfl) (r_convW (by rfl) (by rfl) (by infer_instance) (by infer_instance) hu) ?_; refine put_in ?_)) | ((fail_if_success (with_reducible refine cons_list ?_)); first | go_step | go_step3 | rw [Exit.noGoto_normal] | rw [Exit.noGoto_ret] | rw [Exit.noGoto_exit]))
    rw [hm] at hS
    rename_i bn x1 bm x2 br x3 x4 x5 bk x6 x7 x8 x9 x10 x11 x12 x13
    obtain ⟨bc, hbc⟩ : ∃ x, x = b := ⟨_, rfl⟩
    rw [← hbc] at hS ⊢
    clear hbc
    refine s_call stp_list (by rfl) (by rfl) (by rfl) (by rfl) (by rfl) (by infer_instance) (steps_g (nn : Int) _) ?_
    rintro e w1 ⟨gs, rfl, hs1, hs2, hs3⟩
    refine ⟨_, rfl, ?_⟩
    refine put_in ?_
    replace hS := own_st.new hS hs3 hs1 hs2
    repeat' (first | ((with_reducible refine cons_list ?_); first | ((first | refine g_skip stp_list ?_ | refine g_move stp_list ?_ | refine g_assign stp_list ?_ | refine g_load1 stp_list own_st hS ?_ | refine g_loadR stp_list own_st hS ?_ | refine g_indexAddr stp_list ?_ | refine g_indexAddrA stp_list ?_ | refine g_len stp_list ?_ | refine g_cap stp_list ?_ | refine g_extract stp_list ?_ | refine g_add stp_list ?_ | refine g_sub stp_list ?_ | refine g_mul stp_list ?_ | refine g_quo stp_list ?_ | refine g_rem stp_list ?_ | refine g_cmp_t stp_list ?_ | refine g_cmp_f stp_list ?_ | refine g_cmp stp_list (fun hc => ?_) (fun hc => ?_) | refine g_neqNil stp_list ?_ | refine g_neqNil0 stp_list ?_ | refine g_eqlNil stp_list ?_ | refine g_eqlNil0 stp_list ?_ | refine g_fieldAddr stp_list ?_ | refine g_field1 stp_list ?_ | refine g_fieldR stp_list ?_ | refine g_eqlSlNil stp_list ?_ | refine g_neqSlNil stp_list ?_ | refine g_makeInterface stp_list ?_ | refine g_makeFunc stp_list ?_ | refine g_conv stp_list ?_ | refine g_pick stp_list ?_ | refine g_not stp_list ?_ | refine g_slice stp_list ?_ | refine g_sliceA stp_list ?_ | refine g_sliceNil stp_list ?_) <;> refine put_in ?_) | ((first | refine g_alloc stp_list own_st hS ?_ | refine g_box stp_list own_st hS ?_ | refine g_build0 stp_list own_st hS ?_ | refine g_build stp_list own_st hS ?_ | refine g_make stp_list own_st hS ?_); clear hS; intro b w hS; refine put_in ?_) | ((first | refine g_store1 stp_list own_st hS ?_ | refine g_storeR stp_list own_st hS ?_); clear hS; intro w hS; refine put_in ?_)) | ((fail_if_success (with_reducible refine cons_list ?_)); first | go_step | go_step3 | rw [Exit.noGoto_normal] | rw [Exit.noGoto_ret] | rw [Exit.noGoto_exit]))
    have hit := steps1_iter (nn : Int) gs w1 (hS.blk 0 rfl)
    simp only [Int.toNat_natCast] at hit
    rw [stepN_pos (by omega) (by omega)] at hit
    have hSL := own_st.drop hS
    refine wp_range_plain (els := fun k => #[.int .i64 ((k + 1 : Nat) : Int), .int .i64 (((k % nn + 1 : Nat)) : Int)]) (N := some (6 * nn)) (R := [gs]) (gf := 47) (lb := #[.pointer (some ⟨gs, 0, none⟩)]) (by rfl) (by intro args w; kernel_rfl) hit (Below.refl _ _) (fun _ => rfl)
      (fun k L => k < m ∧ k ≤ (6 * nn) ∧ L = [(bc, #[.int .i64 (6 * (nn : Int))], 3), (bk, #[.int .i64 (k : Int)], 3), (br, #[.bool false], 4), (bm, #[.int .i64 (m : Int)], 3), (bn, #[.int .i64 (nn : Int)], 3)])
      (fun c L => c = .exit 0 ∧ m ≤ (6 * nn) ∧ L = [(bc, #[.int .i64 (6 * (nn : Int))], 3), (bk, #[.int .i64 (m : Int)], 3), (br, #[.bool false], 4), (bm, #[.int .i64 (m : Int)], 3), (bn, #[.int .i64 (nn : Int)], 3)]) 0 (fun h => by cases h) ([(bc, #[.int .i64 (6 * (nn : Int))], 3), (bk, #[.int .i64 0], 3), (br, #[.bool false], 4), (bm, #[.int .i64 (m : Int)], 3), (bn, #[.int .i64 (nn : Int)], 3)]) ?I0b ?H0b ?R0b ?act1b ?assignb ?bodyb ?doneb ?stopb
    case I0b => exact ⟨by omega, by omega, rfl⟩
    case H0b => exact hSL.holds
    case R0b =>
      intro x hx
      obtain rfl := List.mem_singleton.1 hx
      refine ⟨hS.lt 0 rfl, ?_⟩
      simp only [List.map_cons, List.map_nil, List.mem_cons, List.not_mem_nil, or_false, not_or]
      exact ⟨hS.ne 0 1 rfl rfl (by decide), hS.ne 0 2 rfl rfl (by decide), hS.ne 0 3 rfl rfl (by decide), hS.ne 0 4 rfl rfl (by decide), hS.ne 0 5 rfl rfl (by decide)⟩
    case assignb =>
      intro l0 k L W hI hIn K hK
      have hS := hIn.round
      simp only [List.zip_toArray, List.zip_cons_cons, List.zip_nil_right, List.foldl_toArray', List.foldl_cons, List.foldl_nil, List.setIfInBounds_toArray, List.set_cons_zero, List.set_cons_succ]
      repeat' (first | ((with_reducible refine cons_in ?_); first | ((first | refine g_skip stp_in ?_ | refine g_move stp_in ?_ | refine g_assign stp_in ?_ | refine g_load1 stp_in own_in hS ?_ | refine g_loadR stp_in own_in hS ?_ | refine g_indexAddr stp_in ?_ | refine g_indexAddrA stp_in ?_ | refine g_len stp_in ?_ | refine g_cap stp_in ?_ | refine g_extract stp_in ?_ | refine g_add stp_in ?_ | refine g_sub stp_in ?_ | refine g_mul stp_in ?_ | refine g_quo stp_in ?_ | refine g_rem stp_in ?_ | refine g_cmp_t stp_in ?_ | refine g_cmp_f stp_in ?_ | refine g_cmp stp_in (fun hc => ?_) (fun hc => ?_) | refine g_neqNil stp_in ?_ | refine g_neqNil0 stp_in ?_ | refine g_eqlNil stp_in ?_ | refine g_eqlNil0 stp_in ?_ | refine g_fieldAddr stp_in ?_ | refine g_field1 stp_in ?_ | refine g_fieldR stp_in ?_ | refine g_eqlSlNil stp_in ?_ | refine g_neqSlNil stp_in ?_ | refine g_makeInterface stp_in ?_ | refine g_makeFunc stp_in ?_ | refine g_conv stp_in ?_ | refine g_pick stp_in ?_ | refine g_not stp_in ?_ | refine g_slice stp_in ?_ | refine g_sliceA stp_in ?_ | refine g_sliceNil stp_in ?_) <;> refine put_in ?_) | ((first | refine g_alloc stp_in own_in hS ?_ | refine g_box stp_in own_in hS ?_ | refine g_build0 stp_in own_in hS ?_ | refine g_build stp_in own_in hS ?_ | refine g_make stp_in own_in hS ?_); clear hS; intro b w hS; refine put_in ?_) | ((first | refine g_store1 stp_in own_in hS ?_ | refine g_storeR stp_in own_in hS ?_); clear hS; intro w hS; refine put_in ?_)) | ((fail_if_success (with_reducible refine cons_in ?_)); first | gi_step | (with_reducible refine wpIn_scope_wide ?_) | (with_reducible refine wpIn_label ?_) | rw [Exit.noGoto_normal] | rw [Exit.noGoto_ret] | rw [Exit.noGoto_exit]))
      exact hK _ hS
    case bodyb =>
      rintro l0 k L W ⟨hk1, hk2, rfl⟩ hIn hN
      have hlt := hN _ rfl
      have hSW := hSL.range hIn
      have hS := hIn.round
      obtain ⟨r, hr⟩ : ∃ r : Nat, k % nn = r := ⟨_, rfl⟩
      have hr3 : r < nn := by rw [← hr]; exact Nat.mod_lt _ (by omega)
      have hr2 : (k : Int) % (nn : Int) = (r : Int) := by rw [← hr]; exact (Int.natCast_emod _ _).symm
      rw [hr]
      by_cases hkm : k + 1 = m
      · repeat' (first | ((with_reducible refine cons_in ?_); first | ((first | refine g_skip stp_in ?_ | refine g_move stp_in ?_ | refine g_assign stp_in ?_ | refine g_load1 stp_in own_in hS ?_ | refine g_loadR stp_in own_in hS ?_ | refine g_indexAddr stp_in ?_ | refine g_indexAddrA stp_in ?_ | refine g_len stp_in ?_ | refine g_cap stp_in ?_ | refine g_extract stp_in ?_ | refine g_add stp_in ?_ | refine g_sub stp_in ?_ | refine g_mul stp_in ?_ | refine g_quo stp_in ?_ | refine g_rem stp_in ?_ | refine g_cmp_t stp_in ?_ | refine g_cmp_f stp_in ?_ | refine g_cmp stp_in (fun hc => ?_) (fun hc => ?_) | refine g_neqNil stp_in ?_ | refine g_neqNil0 stp_in ?_ | refine g_eqlNil stp_in ?_ | refine g_eqlNil0 stp_in ?_ | refine g_fieldAddr stp_in ?_ | refine g_field1 stp_in ?_ | refine g_fieldR stp_in ?_ | refine g_eqlSlNil stp_in ?_ | refine g_neqSlNil stp_in ?_ | refine g_makeInterface stp_in ?_ | refine g_makeFunc stp_in ?_ | refine g_conv stp_in ?_ | refine g_pick stp_in ?_ | refine g_not stp_in ?_ | refine g_slice stp_in ?_ | refine g_sliceA stp_in ?_ | refine g_sliceNil stp_in ?_) <;> refine put_in ?_) | ((first | refine g_alloc stp_in own_in hS ?_ | refine g_box stp_in own_in hS ?_ | refine g_build0 stp_in own_in hS ?_ | refine g_build stp_in own_in hS ?_ | refine g_make stp_in own_in hS ?_); clear hS; intro b w hS; refine put_in ?_) | ((first | refine g_store1 stp_in own_in hS ?_ | refine g_storeR stp_in own_in hS ?_); clear hS; intro w hS; refine put_in ?_) | (refine Stp.go stp_in (by rfl) (by rfl) (r_maxI (by rfl) (by rfl) (by rfl) (show max (nn : Int) 1 = (nn : Int) by omega)) ?_; refine put_in ?_)) | ((fail_if_success (with_reducible refine cons_in ?_)); first | gi_step | (with_reducible refine wpIn_scope_wide ?_) | (with_reducible refine wpIn_label ?_) | rw [Exit.noGoto_normal] | rw [Exit.noGoto_ret] | rw [Exit.noGoto_exit]))
        exact ⟨_, hS, rfl, by omega, by rw [← hkm]; rfl⟩
      · repeat' (first | ((with_reducible refine cons_in ?_); first | ((first | refine g_skip stp_in ?_ | refine g_move stp_in ?_ | refine g_assign stp_in ?_ | refine g_load1 stp_in own_in hS ?_ | refine g_loadR stp_in own_in hS ?_ | refine g_indexAddr stp_in ?_ | refine g_indexAddrA stp_in ?_ | refine g_len stp_in ?_ | refine g_cap stp_in ?_ | refine g_extract stp_in ?_ | refine g_add stp_in ?_ | refine g_sub stp_in ?_ | refine g_mul stp_in ?_ | refine g_quo stp_in ?_ | refine g_rem stp_in ?_ | refine g_cmp_t stp_in ?_ | refine g_cmp_f stp_in ?_ | refine g_cmp stp_in (fun hc => ?_) (fun hc => ?_) | refine g_neqNil stp_in ?_ | refine g_neqNil0 stp_in ?_ | refine g_eqlNil stp_in ?_ | refine g_eqlNil0 stp_in ?_ | refine g_fieldAddr stp_in ?_ | refine g_field1 stp_in ?_ | refine g_fieldR stp_in ?_ | refine g_eqlSlNil stp_in ?_ | refine g_neqSlNil stp_in ?_ | refine g_makeInterface stp_in ?_ | refine g_makeFunc stp_in ?_ | refine g_conv stp_in ?_ | refine g_pick stp_in ?_ | refine g_not stp_in ?_ | refine g_slice stp_in ?_ | refine g_sliceA stp_in ?_ | refine g_sliceNil stp_in ?_) <;> refine put_in ?_) | ((first | refine g_alloc stp_in own_in hS ?_ | refine g_box stp_in own_in hS ?_ | refine g_build0 stp_in own_in hS ?_ | refine g_build stp_in own_in hS ?_ | refine g_make stp_in own_in hS ?_); clear hS; intro b w hS; refine put_in ?_) | ((first | refine g_store1 stp_in own_in hS ?_ | refine g_storeR stp_in own_in hS ?_); clear hS; intro w hS; refine put_in ?_) | (refine Stp.go stp_in (by rfl) (by rfl) (r_maxI (by rfl) (by rfl) (by rfl) (show max (nn : Int) 1 = (nn : Int) by omega)) ?_; refine put_in ?_)) | ((fail_if_success (with_reducible refine cons_in ?_)); first | gi_step | (with_reducible refine wpIn_scope_wide ?_) | (with_reducible refine wpIn_label ?_) | rw [Exit.noGoto_normal] | rw [Exit.noGoto_ret] | rw [Exit.noGoto_exit]))
        exact ⟨_, hS, by omega, by omega, rfl⟩
    case doneb =>
      rintro D N1 L W hm' ⟨hk1, hk2, rfl⟩ hIn hD hD0
      obtain rfl : (6 * nn) = N1 := Option.some.inj hm'
      have hS : StD w0 D W _ := ⟨hSL.range hIn, hD⟩
      have hDw : w0.heap.size ≤ D := Nat.le_trans hSL.below.size hD0
      clear hit hIn
      repeat' (first | ((with_reducible refine cons_list ?_); first | ((first | refine g_skip stp_list ?_ | refine g_move stp_list ?_ | refine g_assign stp_list ?_ | refine g_load1 stp_list own_stD hS ?_ | refine g_loadR stp_list own_stD hS ?_ | refine g_indexAddr stp_list ?_ | refine g_indexAddrA stp_list ?_ | refine g_len stp_list ?_ | refine g_cap stp_list ?_ | refine g_extract stp_list ?_ | refine g_add stp_list ?_ | refine g_sub stp_list ?_ | refine g_mul stp_list ?_ | refine g_quo stp_list ?_ | refine g_rem stp_list ?_ | refine g_cmp_t stp_list ?_ | refine g_cmp_f stp_list ?_ | refine g_cmp stp_list (fun hc => ?_) (fun hc => ?_) | refine g_neqNil stp_list ?_ | refine g_neqNil0 stp_list ?_ | refine g_eqlNil stp_list ?_ | refine g_eqlNil0 stp_list ?_ | refine g_fieldAddr stp_list ?_ | refine g_field1 stp_list ?_ | refine g_fieldR stp_list ?_ | refine g_eqlSlNil stp_list ?_ | refine g_neqSlNil stp_list ?_ | refine g_makeInterface stp_list ?_ | refine g_makeFunc stp_list ?_ | refine g_conv stp_list ?_ | refine g_pick stp_list ?_ | refine g_not stp_list ?_ | refine g_slice stp_list ?_ | refine g_sliceA stp_list ?_ | refine g_sliceNil stp_list ?_) <;> refine put_in ?_) | ((first | refine g_alloc stp_list own_stD hS ?_ | refine g_box stp_list own_stD hS ?_ | refine g_build0 stp_list own_stD hS ?_ | refine g_build stp_list own_stD hS ?_ | refine g_make stp_list own_stD hS ?_); clear hS; intro b w hS; refine put_in ?_) | ((first | refine g_store1 stp_list own_stD hS ?_ | refine g_storeR stp_list own_stD hS ?_); clear hS; intro w hS; refine put_in ?_)) | ((fail_if_success (with_reducible refine cons_list ?_)); first | go_step | go_step3 | rw [Exit.noGoto_normal] | rw [Exit.noGoto_ret] | rw [Exit.noGoto_exit]))
      refine s_call stp_list (by rfl) (by rfl) (by rfl) (by rfl) (by rfl) (by infer_instance) (steps_g 2 _) ?_
      rintro e w3 ⟨gs2, rfl, ks1, ks2, ks3⟩
      refine ⟨_, rfl, ?_⟩
      refine put_in ?_
      replace hS := own_stD.new hS ks3 ks1 ks2
      repeat' (first | ((with_reducible refine cons_list ?_); first | ((first | refine g_skip stp_list ?_ | refine g_move stp_list ?_ | refine g_assign stp_list ?_ | refine g_load1 stp_list own_stD hS ?_ | refine g_loadR stp_list own_stD hS ?_ | refine g_indexAddr stp_list ?_ | refine g_indexAddrA stp_list ?_ | refine g_len stp_list ?_ | refine g_cap stp_list ?_ | refine g_extract stp_list ?_ | refine g_add stp_list ?_ | refine g_sub stp_list ?_ | refine g_mul stp_list ?_ | refine g_quo stp_list ?_ | refine g_rem stp_list ?_ | refine g_cmp_t stp_list ?_ | refine g_cmp_f stp_list ?_ | refine g_cmp stp_list (fun hc => ?_) (fun hc => ?_) | refine g_neqNil stp_list ?_ | refine g_neqNil0 stp_list ?_ | refine g_eqlNil stp_list ?_ | refine g_eqlNil0 stp_list ?_ | refine g_fieldAddr stp_list ?_ | refine g_field1 stp_list ?_ | refine g_fieldR stp_list ?_ | refine g_eqlSlNil stp_list ?_ | refine g_neqSlNil stp_list ?_ | refine g_makeInterface stp_list ?_ | refine g_makeFunc stp_list ?_ | refine g_conv stp_list ?_ | refine g_pick stp_list ?_ | refine g_not stp_list ?_ | refine g_slice stp_list ?_ | refine g_sliceA stp_list ?_ | refine g_sliceNil stp_list ?_) <;> refine put_in ?_) | ((first | refine g_alloc stp_list own_stD hS ?_ | refine g_box stp_list own_stD hS ?_ | refine g_build0 stp_list own_stD hS ?_ | refine g_build stp_list own_stD hS ?_ | refine g_make stp_list own_stD hS ?_); clear hS; intro b w hS; refine put_in ?_) | ((first | refine g_store1 stp_list own_stD hS ?_ | refine g_storeR stp_list own_stD hS ?_); clear hS; intro w hS; refine put_in ?_)) | ((fail_if_success (with_reducible refine cons_list ?_)); first | go_step | go_step3 | rw [Exit.noGoto_normal] | rw [Exit.noGoto_ret] | rw [Exit.noGoto_exit]))
      obtain ⟨bt, hbt⟩ : ∃ x, x = b := ⟨_, rfl⟩
      rw [← hbt] at hS ⊢
      clear hbt
      have hit2 := steps1_iter 2 gs2 w3 (hS.1.blk 0 rfl)
      rw [show stepN 2 = 12 by decide] at hit2
      have hSG := hS.1
      have hSL2 := own_stD.drop hS
      refine wp_range_plain (els := fun k => #[.int .i64 ((k + 1 : Nat) : Int), .int .i64 (((k % (2 : Int).toNat + 1 : Nat)) : Int)]) (N := some 12) (R := [gs2]) (gf := 47) (lb := #[.pointer (some ⟨gs2, 0, none⟩)]) (by rfl) (by intro args w; kernel_rfl) hit2 (Below.refl _ _) (fun _ => rfl)
        (fun k L => k ≤ 12 ∧ L = (bt, #[.int .i64 (k : Int)], 3) :: [(bc, #[.int .i64 (6 * (nn : Int))], 3), (bk, #[.int .i64 (((6 * nn) : Nat) : Int)], 3), (br, #[.bool false], 4), (bm, #[.int .i64 (m : Int)], 3), (bn, #[.int .i64 (nn : Int)], 3)])
        (fun _ _ => False) 0 (fun h => by cases h) ((bt, #[.int .i64 0], 3) :: [(bc, #[.int .i64 (6 * (nn : Int))], 3), (bk, #[.int .i64 (((6 * nn) : Nat) : Int)], 3), (br, #[.bool false], 4), (bm, #[.int .i64 (m : Int)], 3), (bn, #[.int .i64 (nn : Int)], 3)]) ?I02 ?H02 ?R02 ?act12 ?assign2 ?body2 ?done2 ?stop2
      case I02 => exact ⟨by omega, rfl⟩
      case H02 => exact hSL2.1.holds
      case R02 =>
        intro x hx
        obtain rfl := List.mem_singleton.1 hx
        refine ⟨hSG.lt 0 rfl, ?_⟩
        simp only [List.map_cons, List.map_nil, List.mem_cons, List.not_mem_nil, or_false, not_or]
        exact ⟨hSG.ne 0 1 rfl rfl (by decide), hSG.ne 0 2 rfl rfl (by decide), hSG.ne 0 3 rfl rfl (by decide), hSG.ne 0 4 rfl rfl (by decide), hSG.ne 0 5 rfl rfl (by decide), hSG.ne 0 6 rfl rfl (by decide)⟩
      case assign2 =>
        intro l0 k L W hI hIn K hK
        have hS := hIn.round
        simp only [List.zip_toArray, List.zip_cons_cons, List.zip_nil_right, List.foldl_toArray', List.foldl_cons, List.foldl_nil, List.setIfInBounds_toArray, List.set_cons_zero, List.set_cons_succ]
        repeat' (first | ((with_reducible refine cons_in ?_); first | ((first | refine g_skip stp_in ?_ | refine g_move stp_in ?_ | refine g_assign stp_in ?_ | refine g_load1 stp_in own_in hS ?_ | refine g_loadR stp_in own_in hS ?_ | refine g_indexAddr stp_in ?_ | refine g_indexAddrA stp_in ?_ | refine g_len stp_in ?_ | refine g_cap stp_in ?_ | refine g_extract stp_in ?_ | refine g_add stp_in ?_ | refine g_sub stp_in ?_ | refine g_mul stp_in ?_ | refine g_quo stp_in ?_ | refine g_rem stp_in ?_ | refine g_cmp_t stp_in ?_ | refine g_cmp_f stp_in ?_ | refine g_cmp stp_in (fun hc => ?_) (fun hc => ?_) | refine g_neqNil stp_in ?_ | refine g_neqNil0 stp_in ?_ | refine g_eqlNil stp_in ?_ | refine g_eqlNil0 stp_in ?_ | refine g_fieldAddr stp_in ?_ | refine g_field1 stp_in ?_ | refine g_fieldR stp_in ?_ | refine g_eqlSlNil stp_in ?_ | refine g_neqSlNil stp_in ?_ | refine g_makeInterface stp_in ?_ | refine g_makeFunc stp_in ?_ | refine g_conv stp_in ?_ | refine g_pick stp_in ?_ | refine g_not stp_in ?_ | refine g_slice stp_in ?_ | refine g_sliceA stp_in ?_ | refine g_sliceNil stp_in ?_) <;> refine put_in ?_) | ((first | refine g_alloc stp_in own_in hS ?_ | refine g_box stp_in own_in hS ?_ | refine g_build0 stp_in own_in hS ?_ | refine g_build stp_in own_in hS ?_ | refine g_make stp_in own_in hS ?_); clear hS; intro b w hS; refine put_in ?_) | ((first | refine g_store1 stp_in own_in hS ?_ | refine g_storeR stp_in own_in hS ?_); clear hS; intro w hS; refine put_in ?_)) | ((fail_if_success (with_reducible refine cons_in ?_)); first | gi_step | (with_reducible refine wpIn_scope_wide ?_) | (with_reducible refine wpIn_label ?_) | rw [Exit.noGoto_normal] | rw [Exit.noGoto_ret] | rw [Exit.noGoto_exit]))
        exact hK _ hS
      case body2 =>
        rintro l0 k L W4 ⟨hk, rfl⟩ hIn hN
        have hlt := hN _ rfl
        have hSW := hSL2.1.range hIn
        have hS := hIn.round
        repeat' (first | ((with_reducible refine cons_in ?_); first | ((first | refine g_skip stp_in ?_ | refine g_move stp_in ?_ | refine g_assign stp_in ?_ | refine g_load1 stp_in own_in hS ?_ | refine g_loadR stp_in own_in hS ?_ | refine g_indexAddr stp_in ?_ | refine g_indexAddrA stp_in ?_ | refine g_len stp_in ?_ | refine g_cap stp_in ?_ | refine g_extract stp_in ?_ | refine g_add stp_in ?_ | refine g_sub stp_in ?_ | refine g_mul stp_in ?_ | refine g_quo stp_in ?_ | refine g_rem stp_in ?_ | refine g_cmp_t stp_in ?_ | refine g_cmp_f stp_in ?_ | refine g_cmp stp_in (fun hc => ?_) (fun hc => ?_) | refine g_neqNil stp_in ?_ | refine g_neqNil0 stp_in ?_ | refine g_eqlNil stp_in ?_ | refine g_eqlNil0 stp_in ?_ | refine g_fieldAddr stp_in ?_ | refine g_field1 stp_in ?_ | refine g_fieldR stp_in ?_ | refine g_eqlSlNil stp_in ?_ | refine g_neqSlNil stp_in ?_ | refine g_makeInterface stp_in ?_ | refine g_makeFunc stp_in ?_ | refine g_conv stp_in ?_ | refine g_pick stp_in ?_ | refine g_not stp_in ?_ | refine g_slice stp_in ?_ | refine g_sliceA stp_in ?_ | refine g_sliceNil stp_in ?_) <;> refine put_in ?_) | ((first | refine g_alloc stp_in own_in hS ?_ | refine g_box stp_in own_in hS ?_ | refine g_build0 stp_in own_in hS ?_ | refine g_build stp_in own_in hS ?_ | refine g_make stp_in own_in hS ?_); clear hS; intro b w hS; refine put_in ?_) | ((first | refine g_store1 stp_in own_in hS ?_ | refine g_storeR stp_in own_in hS ?_); clear hS; intro w hS; refine put_in ?_)) | ((fail_if_success (with_reducible refine cons_in ?_)); first | gi_step | (with_reducible refine wpIn_scope_wide ?_) | (with_reducible refine wpIn_label ?_) | rw [Exit.noGoto_normal] | rw [Exit.noGoto_ret] | rw [Exit.noGoto_exit]))
        exact ⟨_, hS, by omega, rfl⟩
      case done2 =>
        rintro D2 N2 L W4 hm2 ⟨hk, rfl⟩ hIn hD2 hD20
        obtain rfl : 12 = N2 := Option.some.inj hm2
        have hne : D ≠ D2 := by have := (Array.getElem?_eq_some_iff.1 hSL2.2).1; omega
        have hD2w : w0.heap.size ≤ D2 := Nat.le_trans hSL2.1.below.size hD20
        have hS : StDD w0 D D2 W4 _ := ⟨⟨hSL2.1.range hIn, hIn.heap hSL2.2 hSL2.notin⟩, hD2⟩
        clear hit2 hIn
        repeat' (first | ((with_reducible refine cons_list ?_); first | ((first | refine g_skip stp_list ?_ | refine g_move stp_list ?_ | refine g_assign stp_list ?_ | refine g_load1 stp_list own_stDD hS ?_ | refine g_loadR stp_list own_stDD hS ?_ | refine g_indexAddr stp_list ?_ | refine g_indexAddrA stp_list ?_ | refine g_len stp_list ?_ | refine g_cap stp_list ?_ | refine g_extract stp_list ?_ | refine g_add stp_list ?_ | refine g_sub stp_list ?_ | refine g_mul stp_list ?_ | refine g_quo stp_list ?_ | refine g_rem stp_list ?_ | refine g_cmp_t stp_list ?_ | refine g_cmp_f stp_list ?_ | refine g_cmp stp_list (fun hc => ?_) (fun hc => ?_) | refine g_neqNil stp_list ?_ | refine g_neqNil0 stp_list ?_ | refine g_eqlNil stp_list ?_ | refine g_eqlNil0 stp_list ?_ | refine g_fieldAddr stp_list ?_ | refine g_field1 stp_list ?_ | refine g_fieldR stp_list ?_ | refine g_eqlSlNil stp_list ?_ | refine g_neqSlNil stp_list ?_ | refine g_makeInterface stp_list ?_ | refine g_makeFunc stp_list ?_ | refine g_conv stp_list ?_ | refine g_pick stp_list ?_ | refine g_not stp_list ?_ | refine g_slice stp_list ?_ | refine g_sliceA stp_list ?_ | refine g_sliceNil stp_list ?_) <;> refine put_in ?_) | ((first | refine g_alloc stp_list own_stDD hS ?_ | refine g_box stp_list own_stDD hS ?_ | refine g_build0 stp_list own_stDD hS ?_ | refine g_build stp_list own_stDD hS ?_ | refine g_make stp_list own_stDD hS ?_); clear hS; intro b w hS; refine put_in ?_) | ((first | refine g_store1 stp_list own_stDD hS ?_ | refine g_storeR stp_list own_stDD hS ?_); clear hS; intro w hS; refine put_in ?_) | (refine Stp.go stp_list (by rfl) (by rfl) (r_minI (by rfl) (by rfl) (by rfl) rfl) ?_; refine put_in ?_)) | ((fail_if_success (with_reducible refine cons_list ?_)); first | go_step | go_step3 | rw [Exit.noGoto_normal] | rw [Exit.noGoto_ret] | rw [Exit.noGoto_exit]))
        refine postM2 (.inl rfl) rfl hS.2 (hS.mark hne) ?_
        have hS3 := hS.shut hne hDw hD2w
        have hc := (hS3.at 3 rfl).2.1 0
        exact bodyPost_ret (v := .bool true) (by simp [results, Try.results9, go_sem, hc]) rfl ⟨rfl, hS3.below⟩
      case stop2 => rintro D2 c L W4 hf; exact hf.elim
    case stopb =>
      rintro D c L W ⟨rfl, hle, rfl⟩ hIn hD hD0
      have hS : StD w0 D W _ := ⟨hSL.range hIn, hD⟩
      have hDw : w0.heap.size ≤ D := Nat.le_trans hSL.below.size hD0
      clear hit hIn
      repeat' (first | ((with_reducible refine cons_list ?_); first | ((first | refine g_skip stp_list ?_ | refine g_move stp_list ?_ | refine g_assign stp_list ?_ | refine g_load1 stp_list own_stD hS ?_ | refine g_loadR stp_list own_stD hS ?_ | refine g_indexAddr stp_list ?_ | refine g_indexAddrA stp_list ?_ | refine g_len stp_list ?_ | refine g_cap stp_list ?_ | refine g_extract stp_list ?_ | refine g_add stp_list ?_ | refine g_sub stp_list ?_ | refine g_mul stp_list ?_ | refine g_quo stp_list ?_ | refine g_rem stp_list ?_ | refine g_cmp_t stp_list ?_ | refine g_cmp_f stp_list ?_ | refine g_cmp stp_list (fun hc => ?_) (fun hc => ?_) | refine g_neqNil stp_list ?_ | refine g_neqNil0 stp_list ?_ | refine g_eqlNil stp_list ?_ | refine g_eqlNil0 stp_list ?_ | refine g_fieldAddr stp_list ?_ | refine g_field1 stp_list ?_ | refine g_fieldR stp_list ?_ | refine g_eqlSlNil stp_list ?_ | refine g_neqSlNil stp_list ?_ | refine g_makeInterface stp_list ?_ | refine g_makeFunc stp_list ?_ | refine g_conv stp_list ?_ | refine g_pick stp_list ?_ | refine g_not stp_list ?_ | refine g_slice stp_list ?_ | refine g_sliceA stp_list ?_ | refine g_sliceNil stp_list ?_) <;> refine put_in ?_) | ((first | refine g_alloc stp_list own_stD hS ?_ | refine g_box stp_list own_stD hS ?_ | refine g_build0 stp_list own_stD hS ?_ | refine g_build stp_list own_stD hS ?_ | refine g_make stp_list own_stD hS ?_); clear hS; intro b w hS; refine put_in ?_) | ((first | refine g_store1 stp_list own_stD hS ?_ | refine g_storeR stp_list own_stD hS ?_); clear hS; intro w hS; refine put_in ?_)) | ((fail_if_success (with_reducible refine cons_list ?_)); first | go_step | go_step3 | rw [Exit.noGoto_normal] | rw [Exit.noGoto_ret] | rw [Exit.noGoto_exit]))
      refine s_call stp_list (by rfl) (by rfl) (by rfl) (by rfl) (by rfl) (by infer_instance) (steps_g 2 _) ?_
      rintro e w3 ⟨gs2, rfl, ks1, ks2, ks3⟩
      refine ⟨_, rfl, ?_⟩
      refine put_in ?_
      replace hS := own_stD.new hS ks3 ks1 ks2
      repeat' (first | ((with_reducible refine cons_list ?_); first | ((first | refine g_skip stp_list ?_ | refine g_move stp_list ?_ | refine g_assign stp_list ?_ | refine g_load1 stp_list own_stD hS ?_ | refine g_loadR stp_list own_stD hS ?_ | refine g_indexAddr stp_list ?_ | refine g_indexAddrA stp_list ?_ | refine g_len stp_list ?_ | refine g_cap stp_list ?_ | refine g_extract stp_list ?_ | refine g_add stp_list ?_ | refine g_sub stp_list ?_ | refine g_mul stp_list ?_ | refine g_quo stp_list ?_ | refine g_rem stp_list ?_ | refine g_cmp_t stp_list ?_ | refine g_cmp_f stp_list ?_ | refine g_cmp stp_list (fun hc => ?_) (fun hc => ?_) | refine g_neqNil stp_list ?_ | refine g_neqNil0 stp_list ?_ | refine g_eqlNil stp_list ?_ | refine g_eqlNil0 stp_list ?_ | refine g_fieldAddr stp_list ?_ | refine g_field1 stp_list ?_ | refine g_fieldR stp_list ?_ | refine g_eqlSlNil stp_list ?_ | refine g_neqSlNil stp_list ?_ | refine g_makeInterface stp_list ?_ | refine g_makeFunc stp_list ?_ | refine g_conv stp_list ?_ | refine g_pick stp_list ?_ | refine g_not stp_list ?_ | refine g_slice stp_list ?_ | refine g_sliceA stp_list ?_ | refine g_sliceNil stp_list ?_) <;> refine put_in ?_) | ((first | refine g_alloc stp_list own_stD hS ?_ | refine g_box stp_list own_stD hS ?_ | refine g_build0 stp_list own_stD hS ?_ | refine g_build stp_list own_stD hS ?_ | refine g_make stp_list own_stD hS ?_); clear hS; intro b w hS; refine put_in ?_) | ((first | refine g_store1 stp_list own_stD hS ?_ | refine g_storeR stp_list own_stD hS ?_); clear hS; intro w hS; refine put_in ?_)) | ((fail_if_success (with_reducible refine cons_list ?_)); first | go_step | go_step3 | rw [Exit.noGoto_normal] | rw [Exit.noGoto_ret] | rw [Exit.noGoto_exit]))
      obtain ⟨bt, hbt⟩ : ∃ x, x = b := ⟨_, rfl⟩
      rw [← hbt] at hS ⊢
      clear hbt
      have hit2 := steps1_iter 2 gs2 w3 (hS.1.blk 0 rfl)
      rw [show stepN 2 = 12 by decide] at hit2
      have hSG := hS.1
      have hSL2 := own_stD.drop hS
      refine wp_range_plain (els := fun k => #[.int .i64 ((k + 1 : Nat) : Int), .int .i64 (((k % (2 : Int).toNat + 1 : Nat)) : Int)]) (N := some 12) (R := [gs2]) (gf := 47) (lb := #[.pointer (some ⟨gs2, 0, none⟩)]) (by rfl) (by intro args w; kernel_rfl) hit2 (Below.refl _ _) (fun _ => rfl)
        (fun k L => k ≤ 12 ∧ L = (bt, #[.int .i64 (k : Int)], 3) :: [(bc, #[.int .i64 (6 * (nn : Int))], 3), (bk, #[.int .i64 (m : Int)], 3), (br, #[.bool false], 4), (bm, #[.int .i64 (m : Int)], 3), (bn, #[.int .i64 (nn : Int)], 3)])
        (fun _ _ => False) 0 (fun h => by cases h) ((bt, #[.int .i64 0], 3) :: [(bc, #[.int .i64 (6 * (nn : Int))], 3), (bk, #[.int .i64 (m : Int)], 3), (br, #[.bool false], 4), (bm, #[.int .i64 (m : Int)], 3), (bn, #[.int .i64 (nn : Int)], 3)]) ?I03 ?H03 ?R03 ?act13 ?assign3 ?body3 ?done3 ?stop3
      case I03 => exact ⟨by omega, rfl⟩
      case H03 => exact hSL2.1.holds
      case R03 =>
        intro x hx
        obtain rfl := List.mem_singleton.1 hx
        refine ⟨hSG.lt 0 rfl, ?_⟩
        simp only [List.map_cons, List.map_nil, List.mem_cons, List.not_mem_nil, or_false, not_or]
        exact ⟨hSG.ne 0 1 rfl rfl (by decide), hSG.ne 0 2 rfl rfl (by decide), hSG.ne 0 3 rfl rfl (by decide), hSG.ne 0 4 rfl rfl (by decide), hSG.ne 0 5 rfl rfl (by decide), hSG.ne 0 6 rfl rfl (by decide)⟩
      case assign3 =>
        intro l0 k L W hI hIn K hK
        have hS := hIn.round
        simp only [List.zip_toArray, List.zip_cons_cons, List.zip_nil_right, List.foldl_toArray', List.foldl_cons, List.foldl_nil, List.setIfInBounds_toArray, List.set_cons_zero, List.set_cons_succ]
        repeat' (first | ((with_reducible refine cons_in ?_); first | ((first | refine g_skip stp_in ?_ | refine g_move stp_in ?_ | refine g_assign stp_in ?_ | refine g_load1 stp_in own_in hS ?_ | refine g_loadR stp_in own_in hS ?_ | refine g_indexAddr stp_in ?_ | refine g_indexAddrA stp_in ?_ | refine g_len stp_in ?_ | refine g_cap stp_in ?_ | refine g_extract stp_in ?_ | refine g_add stp_in ?_ | refine g_sub stp_in ?_ | refine g_mul stp_in ?_ | refine g_quo stp_in ?_ | refine g_rem stp_in ?_ | refine g_cmp_t stp_in ?_ | refine g_cmp_f stp_in ?_ | refine g_cmp stp_in (fun hc => ?_) (fun hc => ?_) | refine g_neqNil stp_in ?_ | refine g_neqNil0 stp_in ?_ | refine g_eqlNil stp_in ?_ | refine g_eqlNil0 stp_in ?_ | refine g_fieldAddr stp_in ?_ | refine g_field1 stp_in ?_ | refine g_fieldR stp_in ?_ | refine g_eqlSlNil stp_in ?_ | refine g_neqSlNil stp_in ?_ | refine g_makeInterface stp_in ?_ | refine g_makeFunc stp_in ?_ | refine g_conv stp_in ?_ | refine g_pick stp_in ?_ | refine g_not stp_in ?_ | refine g_slice stp_in ?_ | refine g_sliceA stp_in ?_ | refine g_sliceNil stp_in ?_) <;> refine put_in ?_) | ((first | refine g_alloc stp_in own_in hS ?_ | refine g_box stp_in own_in hS ?_ | refine g_build0 stp_in own_in hS ?_ | refine g_build stp_in own_in hS ?_ | refine g_make stp_in own_in hS ?_); clear hS; intro b w hS; refine put_in ?_) | ((first | refine g_store1 stp_in own_in hS ?_ | refine g_storeR stp_in own_in hS ?_); clear hS; intro w hS; refine put_in ?_)) | ((fail_if_success (with_reducible refine cons_in ?_)); first | gi_step | (with_reducible refine wpIn_scope_wide ?_) | (with_reducible refine wpIn_label ?_) | rw [Exit.noGoto_normal] | rw [Exit.noGoto_ret] | rw [Exit.noGoto_exit]))
        exact hK _ hS
      case body3 =>
        rintro l0 k L W4 ⟨hk, rfl⟩ hIn hN
        have hlt := hN _ rfl
        have hSW := hSL2.1.range hIn
        have hS := hIn.round
        repeat' (first | ((with_reducible refine cons_in ?_); first | ((first | refine g_skip stp_in ?_ | refine g_move stp_in ?_ | refine g_assign stp_in ?_ | refine g_load1 stp_in own_in hS ?_ | refine g_loadR stp_in own_in hS ?_ | refine g_indexAddr stp_in ?_ | refine g_indexAddrA stp_in ?_ | refine g_len stp_in ?_ | refine g_cap stp_in ?_ | refine g_extract stp_in ?_ | refine g_add stp_in ?_ | refine g_sub stp_in ?_ | refine g_mul stp_in ?_ | refine g_quo stp_in ?_ | refine g_rem stp_in ?_ | refine g_cmp_t stp_in ?_ | refine g_cmp_f stp_in ?_ | refine g_cmp stp_in (fun hc => ?_) (fun hc => ?_) | refine g_neqNil stp_in ?_ | refine g_neqNil0 stp_in ?_ | refine g_eqlNil stp_in ?_ | refine g_eqlNil0 stp_in ?_ | refine g_fieldAddr stp_in ?_ | refine g_field1 stp_in ?_ | refine g_fieldR stp_in ?_ | refine g_eqlSlNil stp_in ?_ | refine g_neqSlNil stp_in ?_ | refine g_makeInterface stp_in ?_ | refine g_makeFunc stp_in ?_ | refine g_conv stp_in ?_ | refine g_pick stp_in ?_ | refine g_not stp_in ?_ | refine g_slice stp_in ?_ | refine g_sliceA stp_in ?_ | refine g_sliceNil stp_in ?_) <;> refine put_in ?_) | ((first | refine g_alloc stp_in own_in hS ?_ | refine g_box stp_in own_in hS ?_ | refine g_build0 stp_in own_in hS ?_ | refine g_build stp_in own_in hS ?_ | refine g_make stp_in own_in hS ?_); clear hS; intro b w hS; refine put_in ?_) | ((first | refine g_store1 stp_in own_in hS ?_ | refine g_storeR stp_in own_in hS ?_); clear hS; intro w hS; refine put_in ?_)) | ((fail_if_success (with_reducible refine cons_in ?_)); first | gi_step | (with_reducible refine wpIn_scope_wide ?_) | (with_reducible refine wpIn_label ?_) | rw [Exit.noGoto_normal] | rw [Exit.noGoto_ret] | rw [Exit.noGoto_exit]))
        exact ⟨_, hS, by omega, rfl⟩
      case done3 =>
        rintro D2 N2 L W4 hm2 ⟨hk, rfl⟩ hIn hD2 hD20
        obtain rfl : 12 = N2 := Option.some.inj hm2
        have hne : D ≠ D2 := by have := (Array.getElem?_eq_some_iff.1 hSL2.2).1; omega
        have hD2w : w0.heap.size ≤ D2 := Nat.le_trans hSL2.1.below.size hD20
        have hS : StDD w0 D D2 W4 _ := ⟨⟨hSL2.1.range hIn, hIn.heap hSL2.2 hSL2.notin⟩, hD2⟩
        clear hit2 hIn
        repeat' (first | ((with_reducible refine cons_list ?_); first | ((first | refine g_skip stp_list ?_ | refine g_move stp_list ?_ | refine g_assign stp_list ?_ | refine g_load1 stp_list own_stDD hS ?_ | refine g_loadR stp_list own_stDD hS ?_ | refine g_indexAddr stp_list ?_ | refine g_indexAddrA stp_list ?_ | refine g_len stp_list ?_ | refine g_cap stp_list ?_ | refine g_extract stp_list ?_ | refine g_add stp_list ?_ | refine g_sub stp_list ?_ | refine g_mul stp_list ?_ | refine g_quo stp_list ?_ | refine g_rem stp_list ?_ | refine g_cmp_t stp_list ?_ | refine g_cmp_f stp_list ?_ | refine g_cmp stp_list (fun hc => ?_) (fun hc => ?_) | refine g_neqNil stp_list ?_ | refine g_neqNil0 stp_list ?_ | refine g_eqlNil stp_list ?_ | refine g_eqlNil0 stp_list ?_ | refine g_fieldAddr stp_list ?_ | refine g_field1 stp_list ?_ | refine g_fieldR stp_list ?_ | refine g_eqlSlNil stp_list ?_ | refine g_neqSlNil stp_list ?_ | refine g_makeInterface stp_list ?_ | refine g_makeFunc stp_list ?_ | refine g_conv stp_list ?_ | refine g_pick stp_list ?_ | refine g_not stp_list ?_ | refine g_slice stp_list ?_ | refine g_sliceA stp_list ?_ | refine g_sliceNil stp_list ?_) <;> refine put_in ?_) | ((first | refine g_alloc stp_list own_stDD hS ?_ | refine g_box stp_list own_stDD hS ?_ | refine g_build0 stp_list own_stDD hS ?_ | refine g_build stp_list own_stDD hS ?_ | refine g_make stp_list own_stDD hS ?_); clear hS; intro b w hS; refine put_in ?_) | ((first | refine g_store1 stp_list own_stDD hS ?_ | refine g_storeR stp_list own_stDD hS ?_); clear hS; intro w hS; refine put_in ?_) | (refine Stp.go stp_list (by rfl) (by rfl) (r_minI (by rfl) (by rfl) (by rfl) rfl) ?_; refine put_in ?_)) | ((fail_if_success (with_reducible refine cons_list ?_)); first | go_step | go_step3 | rw [Exit.noGoto_normal] | rw [Exit.noGoto_ret] | rw [Exit.noGoto_exit]))
        refine postM2 (.inl rfl) rfl hS.2 (hS.mark hne) ?_
        have hS3 := hS.shut hne hDw hD2w
        have hc := (hS3.at 3 rfl).2.1 0
        exact bodyPost_ret (v := .bool true) (by simp [results, Try.results9, go_sem, hc]) rfl ⟨rfl, hS3.below⟩
      case stop3 => rintro D2 c L W4 hf; exact hf.elim
  · by_cases hn2 : n < 2
    · repeat' (first | ((with_reducible refine cons_list ?_); first | ((first | refine g_skip stp_list ?_ | refine g_move stp_list ?_ | refine g_assign stp_list ?_ | refine g_load1 stp_list own_st hS ?_ | refine g_loadR stp_list own_st hS ?_ | refine g_indexAddr stp_list ?_ | refine g_indexAddrA stp_list ?_ | refine g_len stp_list ?_ | refine g_cap stp_list ?_ | refine g_extract stp_list ?_ | refine g_add stp_list ?_ | refine g_sub stp_list ?_ | refine g_mul stp_list ?_ | refine g_quo stp_list ?_ | refine g_rem stp_list ?_ | refine g_cmp_t stp_list ?_ | refine g_cmp_f stp_list ?_ | refine g_cmp stp_list (fun hc => ?_) (fun hc => ?_) | refine g_neqNil stp_list ?_ | refine g_neqNil0 stp_list ?_ | refine g_eqlNil stp_list ?_ | refine g_eqlNil0 stp_list ?_ | refine g_fieldAddr stp_list ?_ | refine g_field1 stp_list ?_ | refine g_fieldR stp_list ?_ | refine g_eqlSlNil stp_list ?_ | refine g_neqSlNil stp_list ?_ | refine g_makeInterface stp_list ?_ | refine g_makeFunc stp_list ?_ | refine g_conv stp_list ?_ | refine g_pick stp_list ?_ | refine g_not stp_list ?_ | refine g_slice stp_list ?_ | refine g_sliceA stp_list ?_ | refine g_sliceNil stp_list ?_) <;> refine put_in ?_) | ((first | refine g_alloc stp_list own_st hS ?_ | refine g_box stp_list own_st hS ?_ | refine g_build0 stp_list own_st hS ?_ | refine g_build stp_list own_st hS ?_ | refine g_make stp_list own_st hS ?_); clear hS; intro b w hS; refine put_in ?_) | ((first | refine g_store1 stp_list own_st hS ?_ | refine g_storeR stp_list own_st hS ?_); clear hS; intro w hS; refine put_in ?_) | (refine Stp.go stp_list (by rfl) (by rfl) (r_mulW hq (by rfl) (by rfl) (by rfl)) ?_; refine put_in ?_) | (refine Stp.go stp_list (by rfl) (by rfl) (r_convW (by rfl) (by rfl) (by infer_instance) (by infer_instance) hu) ?_; refine put_in ?_)) | ((fail_if_success (with_reducible refine cons_list ?_)); first | go_step | go_step3 | rw [Exit.noGoto_normal] | rw [Exit.noGoto_ret] | rw [Exit.noGoto_exit]))
      rw [hm] at hS
      rename_i bn x1 bm x2 br x3 x4 x5 bk x6 x7 x8 x9 x10 x11 x12 x13 x14
      obtain ⟨bc, hbc⟩ : ∃ x, x = b := ⟨_, rfl⟩
      rw [← hbc] at hS ⊢
      clear hbc
      refine s_call stp_list (by rfl) (by rfl) (by rfl) (by rfl) (by rfl) (by infer_instance) (steps_g n _) ?_
      rintro e w1 ⟨gs, rfl, hs1, hs2, hs3⟩
      refine ⟨_, rfl, ?_⟩
      refine put_in ?_
      replace hS := own_st.new hS hs3 hs1 hs2
      repeat' (first | ((with_reducible refine cons_list ?_); first | ((first | refine g_skip stp_list ?_ | refine g_move stp_list ?_ | refine g_assign stp_list ?_ | refine g_load1 stp_list own_st hS ?_ | refine g_loadR stp_list own_st hS ?_ | refine g_indexAddr stp_list ?_ | refine g_indexAddrA stp_list ?_ | refine g_len stp_list ?_ | refine g_cap stp_list ?_ | refine g_extract stp_list ?_ | refine g_add stp_list ?_ | refine g_sub stp_list ?_ | refine g_mul stp_list ?_ | refine g_quo stp_list ?_ | refine g_rem stp_list ?_ | refine g_cmp_t stp_list ?_ | refine g_cmp_f stp_list ?_ | refine g_cmp stp_list (fun hc => ?_) (fun hc => ?_) | refine g_neqNil stp_list ?_ | refine g_neqNil0 stp_list ?_ | refine g_eqlNil stp_list ?_ | refine g_eqlNil0 stp_list ?_ | refine g_fieldAddr stp_list ?_ | refine g_field1 stp_list ?_ | refine g_fieldR stp_list ?_ | refine g_eqlSlNil stp_list ?_ | refine g_neqSlNil stp_list ?_ | refine g_makeInterface stp_list ?_ | refine g_makeFunc stp_list ?_ | refine g_conv stp_list ?_ | refine g_pick stp_list ?_ | refine g_not stp_list ?_ | refine g_slice stp_list ?_ | refine g_sliceA stp_list ?_ | refine g_sliceNil stp_list ?_) <;> refine put_in ?_) | ((first | refine g_alloc stp_list own_st hS ?_ | refine g_box stp_list own_st hS ?_ | refine g_build0 stp_list own_st hS ?_ | refine g_build stp_list own_st hS ?_ | refine g_make stp_list own_st hS ?_); clear hS; intro b w hS; refine put_in ?_) | ((first | refine g_store1 stp_list own_st hS ?_ | refine g_storeR stp_list own_st hS ?_); clear hS; intro w hS; refine put_in ?_)) | ((fail_if_success (with_reducible refine cons_list ?_)); first | go_step | go_step3 | rw [Exit.noGoto_normal] | rw [Exit.noGoto_ret] | rw [Exit.noGoto_exit]))
      have hit := steps1_iter n gs w1 (hS.blk 0 rfl)
      rw [stepN_none (.inl hn2)] at hit
      have hSL := own_st.drop hS
      refine wp_range_plain (els := fun k => #[.int .i64 ((k + 1 : Nat) : Int), .int .i64 (((k % n.toNat + 1 : Nat)) : Int)]) (N := some 0) (R := [gs]) (gf := 47) (lb := #[.pointer (some ⟨gs, 0, none⟩)]) (by rfl) (by intro args w; kernel_rfl) hit (Below.refl _ _) (fun _ => rfl)
        (fun k L => k < m ∧ k ≤ 0 ∧ L = [(bc, #[.int .i64 0], 3), (bk, #[.int .i64 (k : Int)], 3), (br, #[.bool false], 4), (bm, #[.int .i64 (m : Int)], 3), (bn, #[.int .i64 n], 3)])
        (fun _ _ => False) 0 (fun h => by cases h) ([(bc, #[.int .i64 0], 3), (bk, #[.int .i64 0], 3), (br, #[.bool false], 4), (bm, #[.int .i64 (m : Int)], 3), (bn, #[.int .i64 n], 3)]) ?I0c ?H0c ?R0c ?act1c ?assignc ?bodyc ?donec ?stopc
      case I0c => exact ⟨by omega, by omega, rfl⟩
      case H0c => exact hSL.holds
      case R0c =>
        intro x hx
        obtain rfl := List.mem_singleton.1 hx
        refine ⟨hS.lt 0 rfl, ?_⟩
        simp only [List.map_cons, List.map_nil, List.mem_cons, List.not_mem_nil, or_false, not_or]
        exact ⟨hS.ne 0 1 rfl rfl (by decide), hS.ne 0 2 rfl rfl (by decide), hS.ne 0 3 rfl rfl (by decide), hS.ne 0 4 rfl rfl (by decide), hS.ne 0 5 rfl rfl (by decide)⟩
      case assignc =>
        intro l0 k L W hI hIn K hK
        have hS := hIn.round
        simp only [List.zip_toArray, List.zip_cons_cons, List.zip_nil_right, List.foldl_toArray', List.foldl_cons, List.foldl_nil, List.setIfInBounds_toArray, List.set_cons_zero, List.set_cons_succ]
        repeat' (first | ((with_reducible refine cons_in ?_); first | ((first | refine g_skip stp_in ?_ | refine g_move stp_in ?_ | refine g_assign stp_in ?_ | refine g_load1 stp_in own_in hS ?_ | refine g_loadR stp_in own_in hS ?_ | refine g_indexAddr stp_in ?_ | refine g_indexAddrA stp_in ?_ | refine g_len stp_in ?_ | refine g_cap stp_in ?_ | refine g_extract stp_in ?_ | refine g_add stp_in ?_ | refine g_sub stp_in ?_ | refine g_mul stp_in ?_ | refine g_quo stp_in ?_ | refine g_rem stp_in ?_ | refine g_cmp_t stp_in ?_ | refine g_cmp_f stp_in ?_ | refine g_cmp stp_in (fun hc => ?_) (fun hc => ?_) | refine g_neqNil stp_in ?_ | refine g_neqNil0 stp_in ?_ | refine g_eqlNil stp_in ?_ | refine g_eqlNil0 stp_in ?_ | refine g_fieldAddr stp_in ?_ | refine g_field1 stp_in ?_ | refine g_fieldR stp_in ?_ | refine g_eqlSlNil stp_in ?_ | refine g_neqSlNil stp_in ?_ | refine g_makeInterface stp_in ?_ | refine g_makeFunc stp_in ?_ | refine g_conv stp_in ?_ | refine g_pick stp_in ?_ | refine g_not stp_in ?_ | refine g_slice stp_in ?_ | refine g_sliceA stp_in ?_ | refine g_sliceNil stp_in ?_) <;> refine put_in ?_) | ((first | refine g_alloc stp_in own_in hS ?_ | refine g_box stp_in own_in hS ?_ | refine g_build0 stp_in own_in hS ?_ | refine g_build stp_in own_in hS ?_ | refine g_make stp_in own_in hS ?_); clear hS; intro b w hS; refine put_in ?_) | ((first | refine g_store1 stp_in own_in hS ?_ | refine g_storeR stp_in own_in hS ?_); clear hS; intro w hS; refine put_in ?_)) | ((fail_if_success (with_reducible refine cons_in ?_)); first | gi_step | (with_reducible refine wpIn_scope_wide ?_) | (with_reducible refine wpIn_label ?_) | rw [Exit.noGoto_normal] | rw [Exit.noGoto_ret] | rw [Exit.noGoto_exit]))
        exact hK _ hS
      case bodyc =>
        rintro l0 k L W ⟨hk1, hk2, rfl⟩ hIn hN
        have hlt := hN _ rfl
        omega
      case donec =>
        rintro D N1 L W hm' ⟨hk1, hk2, rfl⟩ hIn hD hD0
        obtain rfl : 0 = N1 := Option.some.inj hm'
        have hS : StD w0 D W _ := ⟨hSL.range hIn, hD⟩
        have hDw : w0.heap.size ≤ D := Nat.le_trans hSL.below.size hD0
        clear hit hIn
        repeat' (first | ((with_reducible refine cons_list ?_); first | ((first | refine g_skip stp_list ?_ | refine g_move stp_list ?_ | refine g_assign stp_list ?_ | refine g_load1 stp_list own_stD hS ?_ | refine g_loadR stp_list own_stD hS ?_ | refine g_indexAddr stp_list ?_ | refine g_indexAddrA stp_list ?_ | refine g_len stp_list ?_ | refine g_cap stp_list ?_ | refine g_extract stp_list ?_ | refine g_add stp_list ?_ | refine g_sub stp_list ?_ | refine g_mul stp_list ?_ | refine g_quo stp_list ?_ | refine g_rem stp_list ?_ | refine g_cmp_t stp_list ?_ | refine g_cmp_f stp_list ?_ | refine g_cmp stp_list (fun hc => ?_) (fun hc => ?_) | refine g_neqNil stp_list ?_ | refine g_neqNil0 stp_list ?_ | refine g_eqlNil stp_list ?_ | refine g_eqlNil0 stp_list ?_ | refine g_fieldAddr stp_list ?_ | refine g_field1 stp_list ?_ | refine g_fieldR stp_list ?_ | refine g_eqlSlNil stp_list ?_ | refine g_neqSlNil stp_list ?_ | refine g_makeInterface stp_list ?_ | refine g_makeFunc stp_list ?_ | refine g_conv stp_list ?_ | refine g_pick stp_list ?_ | refine g_not stp_list ?_ | refine g_slice stp_list ?_ | refine g_sliceA stp_list ?_ | refine g_sliceNil stp_list ?_) <;> refine put_in ?_) | ((first | refine g_alloc stp_list own_stD hS ?_ | refine g_box stp_list own_stD hS ?_ | refine g_build0 stp_list own_stD hS ?_ | refine g_build stp_list own_stD hS ?_ | refine g_make stp_list own_stD hS ?_); clear hS; intro b w hS; refine put_in ?_) | ((first | refine g_store1 stp_list own_stD hS ?_ | refine g_storeR stp_list own_stD hS ?_); clear hS; intro w hS; refine put_in ?_)) | ((fail_if_success (with_reducible refine cons_list ?_)); first | go_step | go_step3 | rw [Exit.noGoto_normal] | rw [Exit.noGoto_ret] | rw [Exit.noGoto_exit]))
        refine s_call stp_list (by rfl) (by rfl) (by rfl) (by rfl) (by rfl) (by infer_instance) (steps_g 2 _) ?_
        rintro e w3 ⟨gs2, rfl, ks1, ks2, ks3⟩
        refine ⟨_, rfl, ?_⟩
        refine put_in ?_
        replace hS := own_stD.new hS ks3 ks1 ks2
        repeat' (first | ((with_reducible refine cons_list ?_); first | ((first | refine g_skip stp_list ?_ | refine g_move stp_list ?_ | refine g_assign stp_list ?_ | refine g_load1 stp_list own_stD hS ?_ | refine g_loadR stp_list own_stD hS ?_ | refine g_indexAddr stp_list ?_ | refine g_indexAddrA stp_list ?_ | refine g_len stp_list ?_ | refine g_cap stp_list ?_ | refine g_extract stp_list ?_ | refine g_add stp_list ?_ | refine g_sub stp_list ?_ | refine g_mul stp_list ?_ | refine g_quo stp_list ?_ | refine g_rem stp_list ?_ | refine g_cmp_t stp_list ?_ | refine g_cmp_f stp_list ?_ | refine g_cmp stp_list (fun hc => ?_) (fun hc => ?_) | refine g_neqNil stp_list ?_ | refine g_neqNil0 stp_list ?_ | refine g_eqlNil stp_list ?_ | refine g_eqlNil0 stp_list ?_ | refine g_fieldAddr stp_list ?_ | refine g_field1 stp_list ?_ | refine g_fieldR stp_list ?_ | refine g_eqlSlNil stp_list ?_ | refine g_neqSlNil stp_list ?_ | refine g_makeInterface stp_list ?_ | refine g_makeFunc stp_list ?_ | refine g_conv stp_list ?_ | refine g_pick stp_list ?_ | refine g_not stp_list ?_ | refine g_slice stp_list ?_ | refine g_sliceA stp_list ?_ | refine g_sliceNil stp_list ?_) <;> refine put_in ?_) | ((first | refine g_alloc stp_list own_stD hS ?_ | refine g_box stp_list own_stD hS ?_ | refine g_build0 stp_list own_stD hS ?_ | refine g_build stp_list own_stD hS ?_ | refine g_make stp_list own_stD hS ?_); clear hS; intro b w hS; refine put_in ?_) | ((first | refine g_store1 stp_list own_stD hS ?_ | refine g_storeR stp_list own_stD hS ?_); clear hS; intro w hS; refine put_in ?_)) | ((fail_if_success (with_reducible refine cons_list ?_)); first | go_step | go_step3 | rw [Exit.noGoto_normal] | rw [Exit.noGoto_ret] | rw [Exit.noGoto_exit]))
        obtain ⟨bt, hbt⟩ : ∃ x, x = b := ⟨_, rfl⟩
        rw [← hbt] at hS ⊢
        clear hbt
        have hit2 := steps1_iter 2 gs2 w3 (hS.1.blk 0 rfl)
        rw [show stepN 2 = 12 by decide] at hit2
        have hSG := hS.1
        have hSL2 := own_stD.drop hS
        refine wp_range_plain (els := fun k => #[.int .i64 ((k + 1 : Nat) : Int), .int .i64 (((k % (2 : Int).toNat + 1 : Nat)) : Int)]) (N := some 12) (R := [gs2]) (gf := 47) (lb := #[.pointer (some ⟨gs2, 0, none⟩)]) (by rfl) (by intro args w; kernel_rfl) hit2 (Below.refl _ _) (fun _ => rfl)
          (fun k L => k ≤ 12 ∧ L = (bt, #[.int .i64 (k : Int)], 3) :: [(bc, #[.int .i64 0], 3), (bk, #[.int .i64 ((0 : Nat) : Int)], 3), (br, #[.bool false], 4), (bm, #[.int .i64 (m : Int)], 3), (bn, #[.int .i64 n], 3)])
          (fun _ _ => False) 0 (fun h => by cases h) ((bt, #[.int .i64 0], 3) :: [(bc, #[.int .i64 0], 3), (bk, #[.int .i64 ((0 : Nat) : Int)], 3), (br, #[.bool false], 4), (bm, #[.int .i64 (m : Int)], 3), (bn, #[.int .i64 n], 3)]) ?I04 ?H04 ?R04 ?act14 ?assign4 ?body4 ?done4 ?stop4
        case I04 => exact ⟨by omega, rfl⟩
        case H04 => exact hSL2.1.holds
        case R04 =>
          intro x hx
          obtain rfl := List.mem_singleton.1 hx
          refine ⟨hSG.lt 0 rfl, ?_⟩
          simp only [List.map_cons, List.map_nil, List.mem_cons, List.not_mem_nil, or_false, not_or]
          exact ⟨hSG.ne 0 1 rfl rfl (by decide), hSG.ne 0 2 rfl rfl (by decide), hSG.ne 0 3 rfl rfl (by decide), hSG.ne 0 4 rfl rfl (by decide), hSG.ne 0 5 rfl rfl (by decide), hSG.ne 0 6 rfl rfl (by decide)⟩
        case assign4 =>
          intro l0 k L W hI hIn K hK
          have hS := hIn.round
          simp only [List.zip_toArray, List.zip_cons_cons, List.zip_nil_right, List.foldl_toArray', List.foldl_cons, List.foldl_nil, List.setIfInBounds_toArray, List.set_cons_zero, List.set_cons_succ]
          repeat' (first | ((with_reducible refine cons_in ?_); first | ((first | refine g_skip stp_in ?_ | refine g_move stp_in ?_ | refine g_assign stp_in ?_ | refine g_load1 stp_in own_in hS ?_ | refine g_loadR stp_in own_in hS ?_ | refine g_indexAddr stp_in ?_ | refine g_indexAddrA stp_in ?_ | refine g_len stp_in ?_ | refine g_cap stp_in ?_ | refine g_extract stp_in ?_ | refine g_add stp_in ?_ | refine g_sub stp_in ?_ | refine g_mul stp_in ?_ | refine g_quo stp_in ?_ | refine g_rem stp_in ?_ | refine g_cmp_t stp_in ?_ | refine g_cmp_f stp_in ?_ | refine g_cmp stp_in (fun hc => ?_) (fun hc => ?_) | refine g_neqNil stp_in ?_ | refine g_neqNil0 stp_in ?_ | refine g_eqlNil stp_in ?_ | refine g_eqlNil0 stp_in ?_ | refine g_fieldAddr stp_in ?_ | refine g_field1 stp_in ?_ | refine g_fieldR stp_in ?_ | refine g_eqlSlNil stp_in ?_ | refine g_neqSlNil stp_in ?_ | refine g_makeInterface stp_in ?_ | refine g_makeFunc stp_in ?_ | refine g_conv stp_in ?_ | refine g_pick stp_in ?_ | refine g_not stp_in ?_ | refine g_slice stp_in ?_ | refine g_sliceA stp_in ?_ | refine g_sliceNil stp_in ?_) <;> refine put_in ?_) | ((first | refine g_alloc stp_in own_in hS ?_ | refine g_box stp_in own_in hS ?_ | refine g_build0 stp_in own_in hS ?_ | refine g_build stp_in own_in hS ?_ | refine g_make stp_in own_in hS ?_); clear hS; intro b w hS; refine put_in ?_) | ((first | refine g_store1 stp_in own_in hS ?_ | refine g_storeR stp_in own_in hS ?_); clear hS; intro w hS; refine put_in ?_)) | ((fail_if_success (with_reducible refine cons_in ?_)); first | gi_step | (with_reducible refine wpIn_scope_wide ?_) | (with_reducible refine wpIn_label ?_) | rw [Exit.noGoto_normal] | rw [Exit.noGoto_ret] | rw [Exit.noGoto_exit]))
          exact hK _ hS
        case body4 =>
          rintro l0 k L W4 ⟨hk, rfl⟩ hIn hN
          have hlt := hN _ rfl
          have hSW := hSL2.1.range hIn
          have hS := hIn.round
          repeat' (first | ((with_reducible refine cons_in ?_); first | ((first | refine g_skip stp_in ?_ | refine g_move stp_in ?_ | refine g_assign stp_in ?_ | refine g_load1 stp_in own_in hS ?_ | refine g_loadR stp_in own_in hS ?_ | refine g_indexAddr stp_in ?_ | refine g_indexAddrA stp_in ?_ | refine g_len stp_in ?_ | refine g_cap stp_in ?_ | refine g_extract stp_in ?_ | refine g_add stp_in ?_ | refine g_sub stp_in ?_ | refine g_mul stp_in ?_ | refine g_quo stp_in ?_ | refine g_rem stp_in ?_ | refine g_cmp_t stp_in ?_ | refine g_cmp_f stp_in ?_ | refine g_cmp stp_in (fun hc => ?_) (fun hc => ?_) | refine g_neqNil stp_in ?_ | refine g_neqNil0 stp_in ?_ | refine g_eqlNil stp_in ?_ | refine g_eqlNil0 stp_in ?_ | refine g_fieldAddr stp_in ?_ | refine g_field1 stp_in ?_ | refine g_fieldR stp_in ?_ | refine g_eqlSlNil stp_in ?_ | refine g_neqSlNil stp_in ?_ | refine g_makeInterface stp_in ?_ | refine g_makeFunc stp_in ?_ | refine g_conv stp_in ?_ | refine g_pick stp_in ?_ | refine g_not stp_in ?_ | refine g_slice stp_in ?_ | refine g_sliceA stp_in ?_ | refine g_sliceNil stp_in ?_) <;> refine put_in ?_) | ((first | refine g_alloc stp_in own_in hS ?_ | refine g_box stp_in own_in hS ?_ | refine g_build0 stp_in own_in hS ?_ | refine g_build stp_in own_in hS ?_ | refine g_make stp_in own_in hS ?_); clear hS; intro b w hS; refine put_in ?_) | ((first | refine g_store1 stp_in own_in hS ?_ | refine g_storeR stp_in own_in hS ?_); clear hS; intro w hS; refine put_in ?_)) | ((fail_if_success (with_reducible refine cons_in ?_)); first | gi_step | (with_reducible refine wpIn_scope_wide ?_) | (with_reducible refine wpIn_label ?_) | rw [Exit.noGoto_normal] | rw [Exit.noGoto_ret] | rw [Exit.noGoto_exit]))
          exact ⟨_, hS, by omega, rfl⟩
        case done4 =>
          rintro D2 N2 L W4 hm2 ⟨hk, rfl⟩ hIn hD2 hD20
          obtain rfl : 12 = N2 := Option.some.inj hm2
          have hne : D ≠ D2 := by have := (Array.getElem?_eq_some_iff.1 hSL2.2).1; omega
          have hD2w : w0.heap.size ≤ D2 := Nat.le_trans hSL2.1.below.size hD20
          have hS : StDD w0 D D2 W4 _ := ⟨⟨hSL2.1.range hIn, hIn.heap hSL2.2 hSL2.notin⟩, hD2⟩
          clear hit2 hIn
          repeat' (first | ((with_reducible refine cons_list ?_); first | ((first | refine g_skip stp_list ?_ | refine g_move stp_list ?_ | refine g_assign stp_list ?_ | refine g_load1 stp_list own_stDD hS ?_ | refine g_loadR stp_list own_stDD hS ?_ | refine g_indexAddr stp_list ?_ | refine g_indexAddrA stp_list ?_ | refine g_len stp_list ?_ | refine g_cap stp_list ?_ | refine g_extract stp_list ?_ | refine g_add stp_list ?_ | refine g_sub stp_list ?_ | refine g_mul stp_list ?_ | refine g_quo stp_list ?_ | refine g_rem stp_list ?_ | refine g_cmp_t stp_list ?_ | refine g_cmp_f stp_list ?_ | refine g_cmp stp_list (fun hc => ?_) (fun hc => ?_) | refine g_neqNil stp_list ?_ | refine g_neqNil0 stp_list ?_ | refine g_eqlNil stp_list ?_ | refine g_eqlNil0 stp_list ?_ | refine g_fieldAddr stp_list ?_ | refine g_field1 stp_list ?_ | refine g_fieldR stp_list ?_ | refine g_eqlSlNil stp_list ?_ | refine g_neqSlNil stp_list ?_ | refine g_makeInterface stp_list ?_ | refine g_makeFunc stp_list ?_ | refine g_conv stp_list ?_ | refine g_pick stp_list ?_ | refine g_not stp_list ?_ | refine g_slice stp_list ?_ | refine g_sliceA stp_list ?_ | refine g_sliceNil stp_list ?_) <;> refine put_in ?_) | ((first | refine g_alloc stp_list own_stDD hS ?_ | refine g_box stp_list own_stDD hS ?_ | refine g_build0 stp_list own_stDD hS ?_ | refine g_build stp_list own_stDD hS ?_ | refine g_make stp_list own_stDD hS ?_); clear hS; intro b w hS; refine put_in ?_) | ((first | refine g_store1 stp_list own_stDD hS ?_ | refine g_storeR stp_list own_stDD hS ?_); clear hS; intro w hS; refine put_in ?_) | (refine Stp.go stp_list (by rfl) (by rfl) (r_minI (by rfl) (by rfl) (by rfl) rfl) ?_; refine put_in ?_)) | ((fail_if_success (with_reducible refine cons_list ?_)); first | go_step | go_step3 | rw [Exit.noGoto_normal] | rw [Exit.noGoto_ret] | rw [Exit.noGoto_exit]))
          refine postM2 (.inl rfl) rfl hS.2 (hS.mark hne) ?_
          have hS3 := hS.shut hne hDw hD2w
          have hc := (hS3.at 3 rfl).2.1 0
          exact bodyPost_ret (v := .bool true) (by simp [results, Try.results9, go_sem, hc]) rfl ⟨rfl, hS3.below⟩
        case stop4 => rintro D2 c L W4 hf; exact hf.elim
      case stopc => rintro D c L W hf; exact hf.elim
    · repeat' (first | ((with_reducible refine cons_list ?_); first | ((first | refine g_skip stp_list ?_ | refine g_move stp_list ?_ | refine g_assign stp_list ?_ | refine g_load1 stp_list own_st hS ?_ | refine g_loadR stp_list own_st hS ?_ | refine g_indexAddr stp_list ?_ | refine g_indexAddrA stp_list ?_ | refine g_len stp_list ?_ | refine g_cap stp_list ?_ | refine g_extract stp_list ?_ | refine g_add stp_list ?_ | refine g_sub stp_list ?_ | refine g_mul stp_list ?_ | refine g_quo stp_list ?_ | refine g_rem stp_list ?_ | refine g_cmp_t stp_list ?_ | refine g_cmp_f stp_list ?_ | refine g_cmp stp_list (fun hc => ?_) (fun hc => ?_) | refine g_neqNil stp_list ?_ | refine g_neqNil0 stp_list ?_ | refine g_eqlNil stp_list ?_ | refine g_eqlNil0 stp_list ?_ | refine g_fieldAddr stp_list ?_ | refine g_field1 stp_list ?_ | refine g_fieldR stp_list ?_ | refine g_eqlSlNil stp_list ?_ | refine g_neqSlNil stp_list ?_ | refine g_makeInterface stp_list ?_ | refine g_makeFunc stp_list ?_ | refine g_conv stp_list ?_ | refine g_pick stp_list ?_ | refine g_not stp_list ?_ | refine g_slice stp_list ?_ | refine g_sliceA stp_list ?_ | refine g_sliceNil stp_list ?_) <;> refine put_in ?_) | ((first | refine g_alloc stp_list own_st hS ?_ | refine g_box stp_list own_st hS ?_ | refine g_build0 stp_list own_st hS ?_ | refine g_build stp_list own_st hS ?_ | refine g_make stp_list own_st hS ?_); clear hS; intro b w hS; refine put_in ?_) | ((first | refine g_store1 stp_list own_st hS ?_ | refine g_storeR stp_list own_st hS ?_); clear hS; intro w hS; refine put_in ?_) | (refine Stp.go stp_list (by rfl) (by rfl) (r_mulW hq (by rfl) (by rfl) (by rfl)) ?_; refine put_in ?_) | (refine Stp.go stp_list (by rfl) (by rfl) (r_convW (by rfl) (by rfl) (by infer_instance) (by infer_instance) hu) ?_; refine put_in ?_)) | ((fail_if_success (with_reducible refine cons_list ?_)); first | go_step | go_step3 | rw [Exit.noGoto_normal] | rw [Exit.noGoto_ret] | rw [Exit.noGoto_exit]))
      rw [hm] at hS
      rename_i bn x1 bm x2 br x3 x4 x5 bk x6 x7 x8 x9 x10 x11 x12 x13 x14
      obtain ⟨bc, hbc⟩ : ∃ x, x = b := ⟨_, rfl⟩
      rw [← hbc] at hS ⊢
      clear hbc
      refine s_call stp_list (by rfl) (by rfl) (by rfl) (by rfl) (by rfl) (by infer_instance) (steps_g n _) ?_
      rintro e w1 ⟨gs, rfl, hs1, hs2, hs3⟩
      refine ⟨_, rfl, ?_⟩
      refine put_in ?_
      replace hS := own_st.new hS hs3 hs1 hs2
      repeat' (first | ((with_reducible refine cons_list ?_); first | ((first | refine g_skip stp_list ?_ | refine g_move stp_list ?_ | refine g_assign stp_list ?_ | refine g_load1 stp_list own_st hS ?_ | refine g_loadR stp_list own_st hS ?_ | refine g_indexAddr stp_list ?_ | refine g_indexAddrA stp_list ?_ | refine g_len stp_list ?_ | refine g_cap stp_list ?_ | refine g_extract stp_list ?_ | refine g_add stp_list ?_ | refine g_sub stp_list ?_ | refine g_mul stp_list ?_ | refine g_quo stp_list ?_ | refine g_rem stp_list ?_ | refine g_cmp_t stp_list ?_ | refine g_cmp_f stp_list ?_ | refine g_cmp stp_list (fun hc => ?_) (fun hc => ?_) | refine g_neqNil stp_list ?_ | refine g_neqNil0 stp_list ?_ | refine g_eqlNil stp_list ?_ | refine g_eqlNil0 stp_list ?_ | refine g_fieldAddr stp_list ?_ | refine g_field1 stp_list ?_ | refine g_fieldR stp_list ?_ | refine g_eqlSlNil stp_list ?_ | refine g_neqSlNil stp_list ?_ | refine g_makeInterface stp_list ?_ | refine g_makeFunc stp_list ?_ | refine g_conv stp_list ?_ | refine g_pick stp_list ?_ | refine g_not stp_list ?_ | refine g_slice stp_list ?_ | refine g_sliceA stp_list ?_ | refine g_sliceNil stp_list ?_) <;> refine put_in ?_) | ((first | refine g_alloc stp_list own_st hS ?_ | refine g_box stp_list own_st hS ?_ | refine g_build0 stp_list own_st hS ?_ | refine g_build stp_list own_st hS ?_ | refine g_make stp_list own_st hS ?_); clear hS; intro b w hS; refine put_in ?_) | ((first | refine g_store1 stp_list own_st hS ?_ | refine g_storeR stp_list own_st hS ?_); clear hS; intro w hS; refine put_in ?_)) | ((fail_if_success (with_reducible refine cons_list ?_)); first | go_step | go_step3 | rw [Exit.noGoto_normal] | rw [Exit.noGoto_ret] | rw [Exit.noGoto_exit]))
      have hit := steps1_iter n gs w1 (hS.blk 0 rfl)
      rw [stepN_none (.inr (by omega))] at hit
      have hSL := own_st.drop hS
      refine wp_range_plain (els := fun k => #[.int .i64 ((k + 1 : Nat) : Int), .int .i64 (((k % n.toNat + 1 : Nat)) : Int)]) (N := some 0) (R := [gs]) (gf := 47) (lb := #[.pointer (some ⟨gs, 0, none⟩)]) (by rfl) (by intro args w; kernel_rfl) hit (Below.refl _ _) (fun _ => rfl)
        (fun k L => k < m ∧ k ≤ 0 ∧ L = [(bc, #[.int .i64 0], 3), (bk, #[.int .i64 (k : Int)], 3), (br, #[.bool false], 4), (bm, #[.int .i64 (m : Int)], 3), (bn, #[.int .i64 n], 3)])
        (fun _ _ => False) 0 (fun h => by cases h) ([(bc, #[.int .i64 0], 3), (bk, #[.int .i64 0], 3), (br, #[.bool false], 4), (bm, #[.int .i64 (m : Int)], 3), (bn, #[.int .i64 n], 3)]) ?I0d ?H0d ?R0d ?act1d ?assignd ?bodyd ?doned ?stopd
      case I0d => exact ⟨by omega, by omega, rfl⟩
      case H0d => exact hSL.holds
      case R0d =>
        intro x hx
        obtain rfl := List.mem_singleton.1 hx
        refine ⟨hS.lt 0 rfl, ?_⟩
        simp only [List.map_cons, List.map_nil, List.mem_cons, List.not_mem_nil, or_false, not_or]
        exact ⟨hS.ne 0 1 rfl rfl (by decide), hS.ne 0 2 rfl rfl (by decide), hS.ne 0 3 rfl rfl (by decide), hS.ne 0 4 rfl rfl (by decide), hS.ne 0 5 rfl rfl (by decide)⟩
      case assignd =>
        intro l0 k L W hI hIn K hK
        have hS := hIn.round
        simp only [List.zip_toArray, List.zip_cons_cons, List.zip_nil_right, List.foldl_toArray', List.foldl_cons, List.foldl_nil, List.setIfInBounds_toArray, List.set_cons_zero, List.set_cons_succ]
        repeat' (first | ((with_reducible refine cons_in ?_); first | ((first | refine g_skip stp_in ?_ | refine g_move stp_in ?_ | refine g_assign stp_in ?_ | refine g_load1 stp_in own_in hS ?_ | refine g_loadR stp_in own_in hS ?_ | refine g_indexAddr stp_in ?_ | refine g_indexAddrA stp_in ?_ | refine g_len stp_in ?_ | refine g_cap stp_in ?_ | refine g_extract stp_in ?_ | refine g_add stp_in ?_ | refine g_sub stp_in ?_ | refine g_mul stp_in ?_ | refine g_quo stp_in ?_ | refine g_rem stp_in ?_ | refine g_cmp_t stp_in ?_ | refine g_cmp_f stp_in ?_ | refine g_cmp stp_in (fun hc => ?_) (fun hc => ?_) | refine g_neqNil stp_in ?_ | refine g_neqNil0 stp_in ?_ | refine g_eqlNil stp_in ?_ | refine g_eqlNil0 stp_in ?_ | refine g_fieldAddr stp_in ?_ | refine g_field1 stp_in ?_ | refine g_fieldR stp_in ?_ | refine g_eqlSlNil stp_in ?_ | refine g_neqSlNil stp_in ?_ | refine g_makeInterface stp_in ?_ | refine g_makeFunc stp_in ?_ | refine g_conv stp_in ?_ | refine g_pick stp_in ?_ | refine g_not stp_in ?_ | refine g_slice stp_in ?_ | refine g_sliceA stp_in ?_ | refine g_sliceNil stp_in ?_) <;> refine put_in ?_) | ((first | refine g_alloc stp_in own_in hS ?_ | refine g_box stp_in own_in hS ?_ | refine g_build0 stp_in own_in hS ?_ | refine g_build stp_in own_in hS ?_ | refine g_make stp_in own_in hS ?_); clear hS; intro b w hS; refine put_in ?_) | ((first | refine g_store1 stp_in own_in hS ?_ | refine g_storeR stp_in own_in hS ?_); clear hS; intro w hS; refine put_in ?_)) | ((fail_if_success (with_reducible refine cons_in ?_)); first | gi_step | (with_reducible refine wpIn_scope_wide ?_) | (with_reducible refine wpIn_label ?_) | rw [Exit.noGoto_normal] | rw [Exit.noGoto_ret] | rw [Exit.noGoto_exit]))
        exact hK _ hS
      case bodyd =>
        rintro l0 k L W ⟨hk1, hk2, rfl⟩ hIn hN
        have hlt := hN _ rfl
        omega
      case doned =>
        rintro D N1 L W hm' ⟨hk1, hk2, rfl⟩ hIn hD hD0
        obtain rfl : 0 = N1 := Option.some.inj hm'
        have hS : StD w0 D W _ := ⟨hSL.range hIn, hD⟩
        have hDw : w0.heap.size ≤ D := Nat.le_trans hSL.below.size hD0
        clear hit hIn
        repeat' (first | ((with_reducible refine cons_list ?_); first | ((first | refine g_skip stp_list ?_ | refine g_move stp_list ?_ | refine g_assign stp_list ?_ | refine g_load1 stp_list own_stD hS ?_ | refine g_loadR stp_list own_stD hS ?_ | refine g_indexAddr stp_list ?_ | refine g_indexAddrA stp_list ?_ | refine g_len stp_list ?_ | refine g_cap stp_list ?_ | refine g_extract stp_list ?_ | refine g_add stp_list ?_ | refine g_sub stp_list ?_ | refine g_mul stp_list ?_ | refine g_quo stp_list ?_ | refine g_rem stp_list ?_ | refine g_cmp_t stp_list ?_ | refine g_cmp_f stp_list ?_ | refine g_cmp stp_list (fun hc => ?_) (fun hc => ?_) | refine g_neqNil stp_list ?_ | refine g_neqNil0 stp_list ?_ | refine g_eqlNil stp_list ?_ | refine g_eqlNil0 stp_list ?_ | refine g_fieldAddr stp_list ?_ | refine g_field1 stp_list ?_ | refine g_fieldR stp_list ?_ | refine g_eqlSlNil stp_list ?_ | refine g_neqSlNil stp_list ?_ | refine g_makeInterface stp_list ?_ | refine g_makeFunc stp_list ?_ | refine g_conv stp_list ?_ | refine g_pick stp_list ?_ | refine g_not stp_list ?_ | refine g_slice stp_list ?_ | refine g_sliceA stp_list ?_ | refine g_sliceNil stp_list ?_) <;> refine put_in ?_) | ((first | refine g_alloc stp_list own_stD hS ?_ | refine g_box stp_list own_stD hS ?_ | refine g_build0 stp_list own_stD hS ?_ | refine g_build stp_list own_stD hS ?_ | refine g_make stp_list own_stD hS ?_); clear hS; intro b w hS; refine put_in ?_) | ((first | refine g_store1 stp_list own_stD hS ?_ | refine g_storeR stp_list own_stD hS ?_); clear hS; intro w hS; refine put_in ?_)) | ((fail_if_success (with_reducible refine cons_list ?_)); first | go_step | go_step3 | rw [Exit.noGoto_normal] | rw [Exit.noGoto_ret] | rw [Exit.noGoto_exit]))
        refine s_call stp_list (by rfl) (by rfl) (by rfl) (by rfl) (by rfl) (by infer_instance) (steps_g 2 _) ?_
        rintro e w3 ⟨gs2, rfl, ks1, ks2, ks3⟩
        refine ⟨_, rfl, ?_⟩
        refine put_in ?_
        replace hS := own_stD.new hS ks3 ks1 ks2
        repeat' (first | ((with_reducible refine cons_list ?_); first | ((first | refine g_skip stp_list ?_ | refine g_move stp_list ?_ | refine g_assign stp_list ?_ | refine g_load1 stp_list own_stD hS ?_ | refine g_loadR stp_list own_stD hS ?_ | refine g_indexAddr stp_list ?_ | refine g_indexAddrA stp_list ?_ | refine g_len stp_list ?_ | refine g_cap stp_list ?_ | refine g_extract stp_list ?_ | refine g_add stp_list ?_ | refine g_sub stp_list ?_ | refine g_mul stp_list ?_ | refine g_quo stp_list ?_ | refine g_rem stp_list ?_ | refine g_cmp_t stp_list ?_ | refine g_cmp_f stp_list ?_ | refine g_cmp stp_list (fun hc => ?_) (fun hc => ?_) | refine g_neqNil stp_list ?_ | refine g_neqNil0 stp_list ?_ | refine g_eqlNil stp_list ?_ | refine g_eqlNil0 stp_list ?_ | refine g_fieldAddr stp_list ?_ | refine g_field1 stp_list ?_ | refine g_fieldR stp_list ?_ | refine g_eqlSlNil stp_list ?_ | refine g_neqSlNil stp_list ?_ | refine g_makeInterface stp_list ?_ | refine g_makeFunc stp_list ?_ | refine g_conv stp_list ?_ | refine g_pick stp_list ?_ | refine g_not stp_list ?_ | refine g_slice stp_list ?_ | refine g_sliceA stp_list ?_ | refine g_sliceNil stp_list ?_) <;> refine put_in ?_) | ((first | refine g_alloc stp_list own_stD hS ?_ | refine g_box stp_list own_stD hS ?_ | refine g_build0 stp_list own_stD hS ?_ | refine g_build stp_list own_stD hS ?_ | refine g_make stp_list own_stD hS ?_); clear hS; intro b w hS; refine put_in ?_) | ((first | refine g_store1 stp_list own_stD hS ?_ | refine g_storeR stp_list own_stD hS ?_); clear hS; intro w hS; refine put_in ?_)) | ((fail_if_success (with_reducible refine cons_list ?_)); first | go_step | go_step3 | rw [Exit.noGoto_normal] | rw [Exit.noGoto_ret] | rw [Exit.noGoto_exit]))
        obtain ⟨bt, hbt⟩ : ∃ x, x = b := ⟨_, rfl⟩
        rw [← hbt] at hS ⊢
        clear hbt
        have hit2 := steps1_iter 2 gs2 w3 (hS.1.blk 0 rfl)
        rw [show stepN 2 = 12 by decide] at hit2
        have hSG := hS.1
        have hSL2 := own_stD.drop hS
        refine wp_range_plain (els := fun k => #[.int .i64 ((k + 1 : Nat) : Int), .int .i64 (((k % (2 : Int).toNat + 1 : Nat)) : Int)]) (N := some 12) (R := [gs2]) (gf := 47) (lb := #[.pointer (some ⟨gs2, 0, none⟩)]) (by rfl) (by intro args w; kernel_rfl) hit2 (Below.refl _ _) (fun _ => rfl)
          (fun k L => k ≤ 12 ∧ L = (bt, #[.int .i64 (k : Int)], 3) :: [(bc, #[.int .i64 0], 3), (bk, #[.int .i64 ((0 : Nat) : Int)], 3), (br, #[.bool false], 4), (bm, #[.int .i64 (m : Int)], 3), (bn, #[.int .i64 n], 3)])
          (fun _ _ => False) 0 (fun h => by cases h) ((bt, #[.int .i64 0], 3) :: [(bc, #[.int .i64 0], 3), (bk, #[.int .i64 ((0 : Nat) : Int)], 3), (br, #[.bool false], 4), (bm, #[.int .i64 (m : Int)], 3), (bn, #[.int .i64 n], 3)]) ?I05 ?H05 ?R05 ?act15 ?assign5 ?body5 ?done5 ?stop5
        case I05 => exact ⟨by omega, rfl⟩
        case H05 => exact hSL2.1.holds
        case R05 =>
          intro x hx
          obtain rfl := List.mem_singleton.1 hx
          refine ⟨hSG.lt 0 rfl, ?_⟩
          simp only [List.map_cons, List.map_nil, List.mem_cons, List.not_mem_nil, or_false, not_or]
          exact ⟨hSG.ne 0 1 rfl rfl (by decide), hSG.ne 0 2 rfl rfl (by decide), hSG.ne 0 3 rfl rfl (by decide), hSG.ne 0 4 rfl rfl (by decide), hSG.ne 0 5 rfl rfl (by decide), hSG.ne 0 6 rfl rfl (by decide)⟩
        case assign5 =>
          intro l0 k L W hI hIn K hK
          have hS := hIn.round
          simp only [List.zip_toArray, List.zip_cons_cons, List.zip_nil_right, List.foldl_toArray', List.foldl_cons, List.foldl_nil, List.setIfInBounds_toArray, List.set_cons_zero, List.set_cons_succ]
          repeat' (first | ((with_reducible refine cons_in ?_); first | ((first | refine g_skip stp_in ?_ | refine g_move stp_in ?_ | refine g_assign stp_in ?_ | refine g_load1 stp_in own_in hS ?_ | refine g_loadR stp_in own_in hS ?_ | refine g_indexAddr stp_in ?_ | refine g_indexAddrA stp_in ?_ | refine g_len stp_in ?_ | refine g_cap stp_in ?_ | refine g_extract stp_in ?_ | refine g_add stp_in ?_ | refine g_sub stp_in ?_ | refine g_mul stp_in ?_ | refine g_quo stp_in ?_ | refine g_rem stp_in ?_ | refine g_cmp_t stp_in ?_ | refine g_cmp_f stp_in ?_ | refine g_cmp stp_in (fun hc => ?_) (fun hc => ?_) | refine g_neqNil stp_in ?_ | refine g_neqNil0 stp_in ?_ | refine g_eqlNil stp_in ?_ | refine g_eqlNil0 stp_in ?_ | refine g_fieldAddr stp_in ?_ | refine g_field1 stp_in ?_ | refine g_fieldR stp_in ?_ | refine g_eqlSlNil stp_in ?_ | refine g_neqSlNil stp_in ?_ | refine g_makeInterface stp_in ?_ | refine g_makeFunc stp_in ?_ | refine g_conv stp_in ?_ | refine g_pick stp_in ?_ | refine g_not stp_in ?_ | refine g_slice stp_in ?_ | refine g_sliceA stp_in ?_ | refine g_sliceNil stp_in ?_) <;> refine put_in ?_) | ((first | refine g_alloc stp_in own_in hS ?_ | refine g_box stp_in own_in hS ?_ | refine g_build0 stp_in own_in hS ?_ | refine g_build stp_in own_in hS ?_ | refine g_make stp_in own_in hS ?_); clear hS; intro b w hS; refine put_in ?_) | ((first | refine g_store1 stp_in own_in hS ?_ | refine g_storeR stp_in own_in hS ?_); clear hS; intro w hS; refine put_in ?_)) | ((fail_if_success (with_reducible refine cons_in ?_)); first | gi_step | (with_reducible refine wpIn_scope_wide ?_) | (with_reducible refine wpIn_label ?_) | rw [Exit.noGoto_normal] | rw [Exit.noGoto_ret] | rw [Exit.noGoto_exit]))
          exact hK _ hS
        case body5 =>
          rintro l0 k L W4 ⟨hk, rfl⟩ hIn hN
          have hlt := hN _ rfl
          have hSW := hSL2.1.range hIn
          have hS := hIn.round
          repeat' (first | ((with_reducible refine cons_in ?_); first | ((first | refine g_skip stp_in ?_ | refine g_move stp_in ?_ | refine g_assign stp_in ?_ | refine g_load1 stp_in own_in hS ?_ | refine g_loadR stp_in own_in hS ?_ | refine g_indexAddr stp_in ?_ | refine g_indexAddrA stp_in ?_ | refine g_len stp_in ?_ | refine g_cap stp_in ?_ | refine g_extract stp_in ?_ | refine g_add stp_in ?_ | refine g_sub stp_in ?_ | refine g_mul stp_in ?_ | refine g_quo stp_in ?_ | refine g_rem stp_in ?_ | refine g_cmp_t stp_in ?_ | refine g_cmp_f stp_in ?_ | refine g_cmp stp_in (fun hc => ?_) (fun hc => ?_) | refine g_neqNil stp_in ?_ | refine g_neqNil0 stp_in ?_ | refine g_eqlNil stp_in ?_ | refine g_eqlNil0 stp_in ?_ | refine g_fieldAddr stp_in ?_ | refine g_field1 stp_in ?_ | refine g_fieldR stp_in ?_ | refine g_eqlSlNil stp_in ?_ | refine g_neqSlNil stp_in ?_ | refine g_makeInterface stp_in ?_ | refine g_makeFunc stp_in ?_ | refine g_conv stp_in ?_ | refine g_pick stp_in ?_ | refine g_not stp_in ?_ | refine g_slice stp_in ?_ | refine g_sliceA stp_in ?_ | refine g_sliceNil stp_in ?_) <;> refine put_in ?_) | ((first | refine g_alloc stp_in own_in hS ?_ | refine g_box stp_in own_in hS ?_ | refine g_build0 stp_in own_in hS ?_ | refine g_build stp_in own_in hS ?_ | refine g_make stp_in own_in hS ?_); clear hS; intro b w hS; refine put_in ?_) | ((first | refine g_store1 stp_in own_in hS ?_ | refine g_storeR stp_in own_in hS ?_); clear hS; intro w hS; refine put_in ?_)) | ((fail_if_success (with_reducible refine cons_in ?_)); first | gi_step | (with_reducible refine wpIn_scope_wide ?_) | (with_reducible refine wpIn_label ?_) | rw [Exit.noGoto_normal] | rw [Exit.noGoto_ret] | rw [Exit.noGoto_exit]))
          exact ⟨_, hS, by omega, rfl⟩
        case done5 =>
          rintro D2 N2 L W4 hm2 ⟨hk, rfl⟩ hIn hD2 hD20
          obtain rfl : 12 = N2 := Option.some.inj hm2
          have hne : D ≠ D2 := by have := (Array.getElem?_eq_some_iff.1 hSL2.2).1; omega
          have hD2w : w0.heap.size ≤ D2 := Nat.le_trans hSL2.1.below.size hD20
          have hS : StDD w0 D D2 W4 _ := ⟨⟨hSL2.1.range hIn, hIn.heap hSL2.2 hSL2.notin⟩, hD2⟩
          clear hit2 hIn
          repeat' (first | ((with_reducible refine cons_list ?_); first | ((first | refine g_skip stp_list ?_ | refine g_move stp_list ?_ | refine g_assign stp_list ?_ | refine g_load1 stp_list own_stDD hS ?_ | refine g_loadR stp_list own_stDD hS ?_ | refine g_indexAddr stp_list ?_ | refine g_indexAddrA stp_list ?_ | refine g_len stp_list ?_ | refine g_cap stp_list ?_ | refine g_extract stp_list ?_ | refine g_add stp_list ?_ | refine g_sub stp_list ?_ | refine g_mul stp_list ?_ | refine g_quo stp_list ?_ | refine g_rem stp_list ?_ | refine g_cmp_t stp_list ?_ | refine g_cmp_f stp_list ?_ | refine g_cmp stp_list (fun hc => ?_) (fun hc => ?_) | refine g_neqNil stp_list ?_ | refine g_neqNil0 stp_list ?_ | refine g_eqlNil stp_list ?_ | refine g_eqlNil0 stp_list ?_ | refine g_fieldAddr stp_list ?_ | refine g_field1 stp_list ?_ | refine g_fieldR stp_list ?_ | refine g_eqlSlNil stp_list ?_ | refine g_neqSlNil stp_list ?_ | refine g_makeInterface stp_list ?_ | refine g_makeFunc stp_list ?_ | refine g_conv stp_list ?_ | refine g_pick stp_list ?_ | refine g_not stp_list ?_ | refine g_slice stp_list ?_ | refine g_sliceA stp_list ?_ | refine g_sliceNil stp_list ?_) <;> refine put_in ?_) | ((first | refine g_alloc stp_list own_stDD hS ?_ | refine g_box stp_list own_stDD hS ?_ | refine g_build0 stp_list own_stDD hS ?_ | refine g_build stp_list own_stDD hS ?_ | refine g_make stp_list own_stDD hS ?_); clear hS; intro b w hS; refine put_in ?_) | ((first | refine g_store1 stp_list own_stDD hS ?_ | refine g_storeR stp_list own_stDD hS ?_); clear hS; intro w hS; refine put_in ?_) | (refine Stp.go stp_list (by rfl) (by rfl) (r_minI (by rfl) (by rfl) (by rfl) rfl) ?_; refine put_in ?_)) | ((fail_if_success (with_reducible refine cons_list ?_)); first | go_step | go_step3 | rw [Exit.noGoto_normal] | rw [Exit.noGoto_ret] | rw [Exit.noGoto_exit]))
          refine postM2 (.inl rfl) rfl hS.2 (hS.mark hne) ?_
          have hS3 := hS.shut hne hDw hD2w
          have hc := (hS3.at 3 rfl).2.1 0
          exact bodyPost_ret (v := .bool true) (by simp [results, Try.results9, go_sem, hc]) rfl ⟨rfl, hS3.below⟩
        case stop5 => rintro D2 c L W4 hf; exact hf.elim
      case stopd => rintro D c L W hf; exact hf.elim
end Go.Proofs.Ytknkkcbihaojhaa

namespace Go.Proofs.Ytknkkcbihaojhaa
open Go.ChangeShapes Go.WideShapes Go.ChangeAt Go.RowKit

theorem Try.own : ownKnob Try.prog.godebug = none := by kernel_rfl
theorem Try.laidOut : laidOutB Try.prog = true := by kernel_rfl

set_option maxRecDepth 100000 in
theorem wrapSteps_lifted (os : Os) (started : os.Started) (H : Type) (enc : TypeId × Value → H) :
    ReturnsInHanded {} Try.checked os 9 .any (Rows.wrapStepsSpec.pre6 enc Try.prog Try.f9 Rows.wrapStepsRow.domain false) (Rows.wrapStepsSpec.post enc Try.prog Try.f9 false true false false) := by
  refine law_lift (C := Try.checked) Try.own started (by kernel_rfl) Try.func9
    (ChangeSpec.witness6 (enc := enc) (C := Try.checked) false ⟨#[], #[.int .i64 0, .int .i64 0], []⟩ 8 (by kernel_rfl) (by kernel_rfl) (by kernel_rfl) (by kernel_rfl))
    rfl (by kernel_rfl) Try.underlying4 (fun ds h => by match ds, h with | [a, b], _ => exact ⟨rfl, rfl, rfl⟩) Try.laidOut (by kernel_rfl) ?_
  intro W base args ds p hval0 hA0 hlt hsz0
  have hval : ∀ (j : Nat) t v, Try.f9.params[j]? = some t → args[j]? = some v → Value.okWide Try.prog W .any base t v := hval0
  have hA : DataW.TrodAll enc Try.prog W 0 (fun _ => true) true Try.f9.params.toList args.toList ds p := hA0
  have hsz : (DataW.weightsEach Try.prog Try.f9.params.toList ds).all (· ≤ reachBytes) = true := hsz0
  rw [Try.params9] at hA hval hsz
  obtain ⟨v0, v1, d0, d1, p0, p1, rfl, rfl, rfl, h0, h1⟩ := trodAll_two hA
  obtain ⟨x0, rfl, rfl, rfl, wx0⟩ := open_int Try.underlying3 (hval 0 _ v0 rfl rfl) h0
  obtain ⟨x1, rfl, rfl, rfl, wx1⟩ := open_int Try.underlying3 (hval 1 _ v1 rfl rfl) h1
  exact wrapSteps_any x0 x1 W

theorem wrapSteps_holds : Rows.WrapStepsSaid :=
  OpenClaim.holds_of_wide 9 Try.f9 rfl rfl rfl rfl rfl rfl rfl ⟨rfl, rfl, rfl, rfl, rfl⟩ rfl rfl rfl rfl rfl (by kernel_rfl) Try.func9 (by kernel_rfl)
    (of_decide_eq_true (by kernel_rfl)) (by unfold Func.isWrapper; rw [if_neg (by decide +kernel)]; exact ⟨rfl, rfl⟩)
    (fun os started H enc _ => wrapSteps_lifted os started H enc)

end Go.Proofs.Ytknkkcbihaojhaa
