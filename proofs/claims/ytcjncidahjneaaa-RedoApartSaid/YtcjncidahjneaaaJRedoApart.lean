/-
  The law RedoApart: for every two keys, every number and rows it answers true. No condition.
-/
import Derived.Test.YtcjncidahjneaaaRows
import Derived.Test.YtcjncidahjneaaaJN0

namespace Go.Proofs.Ytcjncidahjneaaa
open Go.ChangeShapes Go.WideShapes Go.ChangeAt Go.RowKit
attribute [local irreducible] wpList wpListIn Oper.quietAt wpM
attribute [local irreducible] encL DecOk putsD cntR cellN rowP tagL
theorem r_eqCel {P : Program} {o : Oper} {a : Act} {w : World} {t t' n : Nat} {x y : Operand} {l m : List UInt8} {q : Bool} (hop : o.op = .binOp .eql t x y t') (hx : evO a x = some (.agg (bvs l))) (hy : evO a y = some (.agg (bvs m))) (hb : isBytes P t n = true) (hg : P.eqGuardType P.depth t = false) (hl : l.length = n) (hm : m.length = n) (hq : (l == m) = q) : (execOp a.eval o).run P w = .ok (.value (.bool q)) w := by
  unfold execOp; rw [hop]; subst hq
  simp only [Bb hx, Bb hy, Sem.run_bind, run_eqGuard_agg w .eql t x y _ _ hg, Result.andThen_ok, run_eql_struct, run_equalIn_bytes hb l m (by rw [Bg, hl]) (by rw [Bg, hm]) w]
  rfl
theorem r_eqBol {P : Program} {o : Oper} {a : Act} {w : World} {t t' : TypeId} {x y : Operand} {m n q : Bool} (hop : o.op = .binOp .eql t x y t') (hx : evO a x = some (.bool m)) (hy : evO a y = some (.bool n)) (ht : P.underlying t = some .bool) (hq : (m == n) = q) : (execOp a.eval o).run P w = .ok (.value (.bool q)) w := by
  unfold execOp; rw [hop]; subst hq
  have h := run_equalIn_bool (P := P) w 9999 t m n ht
  simp [Bb hx, Bb hy, eqGuard, binOp, Op.equal, Op.maxDepth, h]
/-- The puts of rows, own ones. -/
theorem puts_at (l : List Rw) (hl : l.length ≤ 1000) (v : Value) (w0 : World) (hv : RwAt w0 v l) :
    Calls Try.prog 17 #[v] w0 fun e w' => ∃ g c, e = .returned (.slice (some ⟨g, 0, none⟩) l.length c) ∧ PutsAt w' (.slice (some ⟨g, 0, none⟩) l.length c) (rowP l) ∧ Below w0.heap.size w0 w' := by
  have hok := rowP_ok hv
  refine (puts_any l hl v w0 hv).mono ?_
  rintro e w' ⟨g, c, sp, rfl, k1, k2, k3, k4, k5, hB⟩
  exact ⟨g, c, rfl, PutsAt.own hok (rowP_len l) k1 k5, hB⟩
set_option maxRecDepth 100000 in
set_option maxHeartbeats 8000000 in
theorem rdApart_any (key other : List UInt8) (n : Int) (hnr : -9223372036854775808 ≤ n ∧ n ≤ 9223372036854775807) (l : List Rw) (kv ov v : Value) (w0 : World) (hkv : BytesAt w0 kv key) (hov : BytesAt w0 ov other) (hv : RwAt w0 v l) :
    Calls Try.prog 29 #[kv, ov, .int .i64 n, v] w0 fun e w' => e = .returned (.bool true) ∧ Below w0.heap.size w0 w' := by
  have hS := St.start w0
  by_cases hbig : 1000 < key.length ∨ 70 < l.length
  · have hlg := fun w h1 h2 => large_yes l key hbig kv v w h1 h2
    go_enter Try.func29, Try.ntmps29
    repeat' (first | ((with_reducible refine Ac ?_); first | ((first | refine Ai Aa ?_ | refine Al Aa ?_ | refine Af Aa ?_ | refine Ba Aa Ab hS ?_ | refine Ag Aa ?_ | refine Ae Aa ?_ | refine Be Aa ?_ | refine Bl Aa ?_ | refine Ak Aa ?_ | refine Aj Aa ?_ | refine Aw Aa (fun hc => ?_) (fun hc => ?_) | refine Cg Aa ?_ | refine Bz Aa ?_ | refine Bu Aa ?_ | refine Bk Aa ?_) <;> refine Ad ?_) | (refine Ce Aa Ab hS (hlg _ (hkv.below hS.below) (hv.below hS.below)) ?_; clear hS; intro w hS; refine Ad ?_)) | ((fail_if_success (with_reducible refine Ac ?_)); first | go_step | go_step3 | rw [Exit.noGoto_normal] | rw [Exit.noGoto_ret] | rw [Exit.noGoto_exit]))
    go_ret
    exact ⟨rfl, hS.below⟩
  have hk : key.length ≤ 1000 := by omega
  have hl : l.length ≤ 70 := by omega
  have hlg := fun w h1 h2 => large_no l hl key hk kv v w h1 h2
  obtain ⟨po, co, rfl, hco⟩ := hov.slice
  by_cases hbo : 1000 < other.length
  · go_enter Try.func29, Try.ntmps29
    repeat' (first | ((with_reducible refine Ac ?_); first | ((first | refine Ai Aa ?_ | refine Al Aa ?_ | refine Af Aa ?_ | refine Ba Aa Ab hS ?_ | refine Ag Aa ?_ | refine Ae Aa ?_ | refine Be Aa ?_ | refine Bl Aa ?_ | refine Ak Aa ?_ | refine Aj Aa ?_ | refine Aw Aa (fun hc => ?_) (fun hc => ?_) | refine Cg Aa ?_ | refine Bz Aa ?_ | refine Bu Aa ?_ | refine Bk Aa ?_) <;> refine Ad ?_) | (refine Ce Aa Ab hS (hlg _ (hkv.below hS.below) (hv.below hS.below)) ?_; clear hS; intro w hS; refine Ad ?_)) | ((fail_if_success (with_reducible refine Ac ?_)); first | go_step | go_step3 | rw [Exit.noGoto_normal] | rw [Exit.noGoto_ret] | rw [Exit.noGoto_exit]))
    go_ret
    exact ⟨rfl, hS.below⟩
  have hok := rowP_ok hv
  have hrl := rowP_len l
  have hpu := fun w h => puts_at l (by omega) v w h
  obtain ⟨O, lO, h7, hone⟩ := one_enc
  clear h7 lO
  obtain ⟨L, hL⟩ : ∃ L, rowP l = L := ⟨_, rfl⟩
  obtain ⟨q, hq⟩ : ∃ q, l.length = q := ⟨_, rfl⟩
  rw [hL] at hok hrl hpu
  rw [hq] at hrl hpu
  go_enter Try.func29, Try.ntmps29
  repeat' (first | ((with_reducible refine Ac ?_); first | ((first | refine Ai Aa ?_ | refine Al Aa ?_ | refine Af Aa ?_ | refine Ba Aa Ab hS ?_ | refine Ag Aa ?_ | refine Ae Aa ?_ | refine Be Aa ?_ | refine Bl Aa ?_ | refine Ak Aa ?_ | refine Aj Aa ?_ | refine Aw Aa (fun hc => ?_) (fun hc => ?_) | refine Cg Aa ?_ | refine Bz Aa ?_ | refine Bu Aa ?_ | refine Bk Aa ?_) <;> refine Ad ?_) | (refine Ce Aa Ab hS (hlg _ (hkv.below hS.below) (hv.below hS.below)) ?_; clear hS; intro w hS; refine Ad ?_)) | ((fail_if_success (with_reducible refine Ac ?_)); first | go_step | go_step3 | rw [Exit.noGoto_normal] | rw [Exit.noGoto_ret] | rw [Exit.noGoto_exit]))
  refine s_call Aa (by rfl) (by rfl) (by rfl) (by rfl) (by rfl) (by infer_instance) (hone _) ?_
  rintro e w1 ⟨g, c1, sp, rfl, k1, k2, k3, k4, k5, hB⟩
  refine ⟨_, rfl, ?_⟩
  refine Ad ?_
  replace hS := Ab.call hS hB
  clear k1 k2 k3 k4 k5 hB hone
  repeat' (first | ((with_reducible refine Ac ?_); first | ((first | refine Ai Aa ?_ | refine Al Aa ?_ | refine Af Aa ?_ | refine Ba Aa Ab hS ?_ | refine Ag Aa ?_ | refine Ae Aa ?_ | refine Be Aa ?_ | refine Bl Aa ?_ | refine Ak Aa ?_ | refine Aj Aa ?_ | refine Aw Aa (fun hc => ?_) (fun hc => ?_) | refine Cg Aa ?_ | refine Bz Aa ?_ | refine Bu Aa ?_ | refine Bk Aa ?_) <;> refine Ad ?_)) | ((fail_if_success (with_reducible refine Ac ?_)); first | go_step | go_step3 | rw [Exit.noGoto_normal] | rw [Exit.noGoto_ret] | rw [Exit.noGoto_exit]))
  refine s_call Aa (by rfl) (by rfl) (by rfl) (by rfl) (by rfl) (by infer_instance) (hpu _ (hv.below hS.below)) ?_
  rintro e w1 ⟨g1, c2, rfl, hP1, hB⟩
  refine ⟨_, rfl, ?_⟩
  refine Ad ?_
  replace hS := Ab.call hS hB
  clear hB
  by_cases hgood : 0 ≤ n ∧ soundP L
  · have hea := fun w h1 h2 => encode_good key (by omega) n hgood.1 L hgood.2 kv (.slice (some ⟨g1, 0, none⟩) q c2) w h1 h2
    have lE1 := encL_len key n hok hgood.2.2.2
    have lE2 := encL_len other n hok hgood.2.2.2
    have hdo := dec_other key other (n := n) (l := L) [] (m := q + 2) hok hgood.2 ⟨hgood.1, hnr.2⟩ (by omega)
    have x1 := encL_1 key n hgood.2.2.2
    have x2 := encL_1 other n hgood.2.2.2
    have l1 := tagC_len key (firstC n L) L
    have l2 := tagC_len other (firstC n L) L
    rw [List.append_nil] at hdo
    rw [hrl] at hea lE1 lE2
    have heb := fun v w h1 h2 => encode_good other (by omega) n hgood.1 L hgood.2 (.slice po other.length co) v w h1 h2
    rw [hrl] at heb
    obtain ⟨E1, hE1⟩ : ∃ E, encL key n L = E := ⟨_, rfl⟩
    obtain ⟨E2, hE2⟩ : ∃ E, encL other n L = E := ⟨_, rfl⟩
    obtain ⟨T1, hT1⟩ : ∃ E, tagC key (firstC n L) L = E := ⟨_, rfl⟩
    obtain ⟨T2, hT2⟩ : ∃ E, tagC other (firstC n L) L = E := ⟨_, rfl⟩
    rw [hE1] at hea lE1 hdo x1
    rw [hE2] at heb lE2 x2
    rw [hT1] at hdo x1 l1
    rw [hT2] at hdo x2 l2
    have h56 := hgood.2.2.2
    clear hE1 hE2 hT1 hT2 hgood
    repeat' (first | ((with_reducible refine Ac ?_); first | ((first | refine Ai Aa ?_ | refine Al Aa ?_ | refine Af Aa ?_ | refine Ba Aa Ab hS ?_ | refine Ag Aa ?_ | refine Ae Aa ?_ | refine Be Aa ?_ | refine Bl Aa ?_ | refine Ak Aa ?_ | refine Aj Aa ?_ | refine Aw Aa (fun hc => ?_) (fun hc => ?_) | refine Cg Aa ?_ | refine Bz Aa ?_ | refine Bu Aa ?_ | refine Bk Aa ?_) <;> refine Ad ?_)) | ((fail_if_success (with_reducible refine Ac ?_)); first | go_step | go_step3 | rw [Exit.noGoto_normal] | rw [Exit.noGoto_ret] | rw [Exit.noGoto_exit]))
    refine s_call Aa (by rfl) (by rfl) (by rfl) (by rfl) (by rfl) (by infer_instance) (hea _ (hkv.below hS.below) hP1) ?_
    rintro e w1 ⟨gx, cx, spx, rfl, k4, k5, k6, k7, k8, hB⟩
    refine ⟨_, rfl, ?_⟩
    refine Ad ?_
    replace hS := Ab.new hS hB k7 k8
    clear k7 k8 hB hP1
    repeat' (first | ((with_reducible refine Ac ?_); first | ((first | refine Ai Aa ?_ | refine Al Aa ?_ | refine Af Aa ?_ | refine Ba Aa Ab hS ?_ | refine Ag Aa ?_ | refine Ae Aa ?_ | refine Be Aa ?_ | refine Bl Aa ?_ | refine Ak Aa ?_ | refine Aj Aa ?_ | refine Aw Aa (fun hc => ?_) (fun hc => ?_) | refine Cg Aa ?_ | refine Bz Aa ?_ | refine Bu Aa ?_ | refine Bk Aa ?_) <;> refine Ad ?_)) | ((fail_if_success (with_reducible refine Ac ?_)); first | go_step | go_step3 | rw [Exit.noGoto_normal] | rw [Exit.noGoto_ret] | rw [Exit.noGoto_exit]))
    refine s_call Aa (by rfl) (by rfl) (by rfl) (by rfl) (by rfl) (by infer_instance) (hpu _ (hv.below hS.below)) ?_
    rintro e w1 ⟨g2, c3, rfl, hP2, hB⟩
    refine ⟨_, rfl, ?_⟩
    refine Ad ?_
    replace hS := Ab.call hS hB
    clear hB
    repeat' (first | ((with_reducible refine Ac ?_); first | ((first | refine Ai Aa ?_ | refine Al Aa ?_ | refine Af Aa ?_ | refine Ba Aa Ab hS ?_ | refine Ag Aa ?_ | refine Ae Aa ?_ | refine Be Aa ?_ | refine Bl Aa ?_ | refine Ak Aa ?_ | refine Aj Aa ?_ | refine Aw Aa (fun hc => ?_) (fun hc => ?_) | refine Cg Aa ?_ | refine Bz Aa ?_ | refine Bu Aa ?_ | refine Bk Aa ?_) <;> refine Ad ?_)) | ((fail_if_success (with_reducible refine Ac ?_)); first | go_step | go_step3 | rw [Exit.noGoto_normal] | rw [Exit.noGoto_ret] | rw [Exit.noGoto_exit]))
    refine s_call Aa (by rfl) (by rfl) (by rfl) (by rfl) (by rfl) (by infer_instance) (heb _ _ (hov.below hS.below) hP2) ?_
    rintro e w1 ⟨gy, cy, spy, rfl, m4, m5, m6, m7, m8, hB⟩
    refine ⟨_, rfl, ?_⟩
    refine Ad ?_
    replace hS := Ab.new hS hB m7 m8
    clear m7 m8 hB hP2
    repeat' (first | ((with_reducible refine Ac ?_); first | ((first | refine Ai Aa ?_ | refine Al Aa ?_ | refine Af Aa ?_ | refine Ba Aa Ab hS ?_ | refine Ag Aa ?_ | refine Ae Aa ?_ | refine Be Aa ?_ | refine Bl Aa ?_ | refine Ak Aa ?_ | refine Aj Aa ?_ | refine Aw Aa (fun hc => ?_) (fun hc => ?_) | refine Cg Aa ?_ | refine Bz Aa ?_ | refine Bu Aa ?_ | refine Bk Aa ?_) <;> refine Ad ?_)) | ((fail_if_success (with_reducible refine Ac ?_)); first | go_step | go_step3 | rw [Exit.noGoto_normal] | rw [Exit.noGoto_ret] | rw [Exit.noGoto_exit]))
    have hCA : CellsAt _ (.slice (some ⟨gx, 0, none⟩) (q + 2) cx) E1 (q + 2) := CellsAt.own lE1 k4 (hS.blk 1 rfl)
    refine s_call Aa (by rfl) (by rfl) (by rfl) (by rfl) (by rfl) (by infer_instance) (decode_any other (by omega) E1 (q + 2) (by omega) _ _ _ (hov.below hS.below) hCA) ?_
    rintro e w1 ⟨ok, cnt, pv, l3, rfl, hR, hk3, ht3, hf3, hB⟩
    refine ⟨_, rfl, ?_⟩
    refine Ad ?_
    replace hS := Ab.call hS hB
    have hqq : (ok == (T1 == T2)) = true := by
      have e : ok = true ↔ T2 = T1 := hk3.trans hdo.1
      by_cases h : T2 = T1
      · rw [e.2 h, h]; simp
      · have h2 : ok = false := by
          cases ok with
          | false => rfl
          | true => exact absurd (e.1 rfl) h
        rw [h2]
        have : (T1 == T2) = false := by simp; exact fun h3 => h h3.symm
        rw [this]; rfl
    obtain ⟨y1, y2, y3⟩ := celX_cut (o := 0) (i := 1) lE1 (by omega) (own_cells (sp := spx))
    obtain ⟨z1, z2, z3⟩ := celX_cut (o := 0) (i := 1) lE2 (by omega) (own_cells (sp := spy))
    rw [x1] at y2
    rw [x2] at z2
    clear hB hCA hR hk3 ht3 hf3 y3 z3
    repeat' (first | ((with_reducible refine Ac ?_); first | ((first | refine Ai Aa ?_ | refine Al Aa ?_ | refine Af Aa ?_ | refine Ba Aa Ab hS ?_ | refine Ag Aa ?_ | refine Ae Aa ?_ | refine Be Aa ?_ | refine Bl Aa ?_ | refine Ak Aa ?_ | refine Aj Aa ?_ | refine Aw Aa (fun hc => ?_) (fun hc => ?_) | refine Cg Aa ?_ | refine Bz Aa ?_ | refine Bu Aa ?_ | refine Bk Aa ?_) <;> refine Ad ?_)) | ((fail_if_success (with_reducible refine Ac ?_)); first | go_step | go_step3 | rw [Exit.noGoto_normal] | rw [Exit.noGoto_ret] | rw [Exit.noGoto_exit]))
    refine Bv 10 (by kernel_rfl) (by kernel_rfl) ?_
    dsimp only [List.take, List.drop]
    iterate 10 (first | (refine Dc (fun _ => rfl) ?_; simp only [Act.put, List.setIfInBounds_toArray, List.set_cons_zero, List.set_cons_succ]) | (refine Cw (by rfl) (fun _ => rfl) _ (fun w => r_alloc (a := ⟨#[], []⟩) rfl (by infer_instance)) ?_; simp only [Act.put, List.setIfInBounds_toArray, List.set_cons_zero, List.set_cons_succ]) | (refine Cr rfl (fun _ => rfl) (fun K hK => ?_); apply Exists.intro; apply Exists.intro; apply Exists.intro; apply Exists.intro; refine ⟨fun pB w' hw' hF => ?_, hK _ _ ?_⟩; (focus (exact Cf (by rfl) (by rfl) (by infer_instance) (by rfl) (by repeat (first | exact (fun _ h => absurd h List.not_mem_nil) | refine List.forall_mem_cons.2 ⟨by first | rfl | (simp only [Value.cells]; first | rfl | omega), ?_⟩)) (by (try conv => lhs; simp only [List.flatMap_cons, List.flatMap_nil, Value.cells, List.append_nil, List.cons_append, List.nil_append]); first | done | rfl) (by decide) (by decide))); clear hK K; simp only [Act.put, List.setIfInBounds_toArray, List.set_cons_zero, List.set_cons_succ]) | (refine Dd (fun _ => rfl) (fun K hK => ?_); apply Exists.intro; refine ⟨fun pB w' hw' hF => ?_, hK _ _ ?_⟩; (focus (have hZ := (Ab).call hS hw'; first | exact (Cn (r_eqCel (by rfl) (by rfl) (by rfl) (by kernel_rfl) (by kernel_rfl) l1 l2 rfl)) | exact (Cn (r_eqBol (by rfl) (by rfl) (by rfl) Try.underlying4 hqq)) | exact q_move | exact Dh | exact q_load1 Ab hZ (hv := by first | rfl | exact Bi | (rw [Array.getElem?_toList]; first | exact y2 | exact z2)) | exact q_loadR Ab hZ (hv := by first | exact Bo _ _ (by (try simp only [Bn, Bg, Bm, List.length_append, List.length_set, zs_len, List.length_take, List.length_drop, List.length_cons, List.length_nil]); first | done | rfl | omega) | (first | exact y2 | exact z2) | rfl) | exact Ci | exact Cb | exact q_len | exact q_cap | exact Cy | exact q_add | exact q_sub | exact q_mul | exact q_quo | exact q_rem | exact q_cmp_t | exact q_cmp_f | exact De | exact Cx | exact Df | exact Cv | exact Ch | exact Di (hv' := by first | rfl | exact Bi | (rw [Array.getElem?_toList]; first | exact y2 | exact z2)) | exact Dg | exact Cm | exact Co | exact Bt | exact Cl | exact q_conv | exact q_pick | exact q_not | exact Db | exact Ct | exact Cc | exact Dk | exact Dl | exact Cs)); clear hK K; simp only [Act.put, List.setIfInBounds_toArray, List.set_cons_zero, List.set_cons_succ]))
    refine wpM_nil ?_
    intro pB w hcq hfq hnq
    replace hS := (Ab).news hS hcq _ (by first | decide | simp) hfq hnq
    first | simp only [List.map_nil, List.nil_append] at hS | simp only [List.map_cons, List.map_nil, List.cons_append, List.nil_append] at hS
    clear hcq hfq hnq
    try dsimp only
    repeat' (first | ((with_reducible refine Ac ?_); first | ((first | refine Ai Aa ?_ | refine Al Aa ?_ | refine Af Aa ?_ | refine Ba Aa Ab hS ?_ | refine Ag Aa ?_ | refine Ae Aa ?_ | refine Be Aa ?_ | refine Bl Aa ?_ | refine Ak Aa ?_ | refine Aj Aa ?_ | refine Aw Aa (fun hc => ?_) (fun hc => ?_) | refine Cg Aa ?_ | refine Bz Aa ?_ | refine Bu Aa ?_ | refine Bk Aa ?_) <;> refine Ad ?_)) | ((fail_if_success (with_reducible refine Ac ?_)); first | go_step | go_step3 | rw [Exit.noGoto_normal] | rw [Exit.noGoto_ret] | rw [Exit.noGoto_exit]))
    go_ret
    exact ⟨rfl, hS.below⟩
  · have hbad : n < 0 ∨ ¬ soundP L := by
      by_cases h0 : 0 ≤ n
      · exact .inr fun h => hgood ⟨h0, h⟩
      · exact .inl (by omega)
    have hea := fun w h1 => encode_bad n L (by omega) hbad kv (.slice (some ⟨g1, 0, none⟩) q c2) w h1
    clear hgood hbad
    repeat' (first | ((with_reducible refine Ac ?_); first | ((first | refine Ai Aa ?_ | refine Al Aa ?_ | refine Af Aa ?_ | refine Ba Aa Ab hS ?_ | refine Ag Aa ?_ | refine Ae Aa ?_ | refine Be Aa ?_ | refine Bl Aa ?_ | refine Ak Aa ?_ | refine Aj Aa ?_ | refine Aw Aa (fun hc => ?_) (fun hc => ?_) | refine Cg Aa ?_ | refine Bz Aa ?_ | refine Bu Aa ?_ | refine Bk Aa ?_) <;> refine Ad ?_) | (refine Ce Aa Ab hS (hea _ hP1) ?_; clear hS; intro w hS; refine Ad ?_)) | ((fail_if_success (with_reducible refine Ac ?_)); first | go_step | go_step3 | rw [Exit.noGoto_normal] | rw [Exit.noGoto_ret] | rw [Exit.noGoto_exit]))
    go_ret
    exact ⟨rfl, hS.below⟩
theorem redoApart_any (key other : List UInt8) (n : Int) (hnr : -9223372036854775808 ≤ n ∧ n ≤ 9223372036854775807) (l : List Rw) (kv ov v : Value) (w0 : World) (hkv : BytesAt w0 kv key) (hov : BytesAt w0 ov other) (hv : RwAt w0 v l) :
    Calls Try.prog 8 #[.agg #[kv, ov, .int .i64 n, v]] w0 fun e w' => e = .returned (.bool true) ∧ Below w0.heap.size w0 w' := by
  have hS := St.start w0
  have ha := fun w h1 h2 h3 => rdApart_any key other n hnr l kv ov v w h1 h2 h3
  obtain ⟨p1, c1, rfl, _⟩ := hkv.slice
  obtain ⟨p2, c2, rfl, _⟩ := hov.slice
  obtain ⟨vs, hvs, p, c, rfl, hc, hp0, hcell⟩ := id hv
  go_enter Try.func8, Try.ntmps8
  repeat' (first | ((with_reducible refine Ac ?_); first | ((first | refine Ai Aa ?_ | refine Af Aa ?_ | refine Av Aa Ab hS ?_ | refine Az Aa ?_) <;> refine Ad ?_) | ((first | refine Cu Aa Ab hS ?_); clear hS; intro b w hS; refine Ad ?_) | (refine Ce Aa Ab hS (ha _ (hkv.below hS.below) (hov.below hS.below) (hv.below hS.below)) ?_; clear hS; intro w hS; refine Ad ?_)) | ((fail_if_success (with_reducible refine Ac ?_)); first | go_step | go_step3 | rw [Exit.noGoto_normal] | rw [Exit.noGoto_ret] | rw [Exit.noGoto_exit]))
  go_ret
  exact ⟨rfl, hS.below⟩
end Go.Proofs.Ytcjncidahjneaaa

namespace Go.Proofs.Ytcjncidahjneaaa
open Go.ChangeShapes Go.WideShapes Go.ChangeAt Go.RowKit

theorem Try.own : ownKnob Try.prog.godebug = none := by kernel_rfl
theorem Try.laidOut : laidOutB Try.prog = true := by kernel_rfl

set_option maxRecDepth 100000 in
theorem redoApart_lifted (os : Os) (started : os.Started) (H : Type) (enc : TypeId × Value → H) :
    ReturnsInHanded {} Try.checked os 8 .any (Rows.redoApartSpec.pre6 enc Try.prog Try.f8 Rows.redoApartRow.domain false) (Rows.redoApartSpec.post enc Try.prog Try.f8 false true false false) := by
  refine law_lift (C := Try.checked) Try.own started (by kernel_rfl) Try.func8
    (ChangeSpec.witness6 (enc := enc) (C := Try.checked) false ⟨#[], #[.agg #[.slice none 0 0, .slice none 0 0, .int .i64 0, .slice none 0 0]], []⟩ 8 (by kernel_rfl) (by kernel_rfl) (by kernel_rfl) (by kernel_rfl))
    rfl (by kernel_rfl) Try.underlying4 (fun ds h => by match ds, h with | [a], _ => exact ⟨rfl, rfl, rfl⟩) Try.laidOut (by kernel_rfl) ?_
  intro W base args ds p hval0 hA0 hlt hsz0
  have hval : ∀ (j : Nat) t v, Try.f8.params[j]? = some t → args[j]? = some v → Value.okWide Try.prog W .any base t v := hval0
  have hA : DataW.TrodAll enc Try.prog W 0 (fun _ => true) true Try.f8.params.toList args.toList ds p := hA0
  have hsz : (DataW.weightsEach Try.prog Try.f8.params.toList ds).all (· ≤ reachBytes) = true := hsz0
  rw [Try.params8] at hA hval hsz
  obtain ⟨v0, d0, rfl, rfl, h0⟩ := trodAll_one hA

  obtain ⟨kv, ov, rv, key, other, n, l, B0, B1, hn, B2, rfl⟩ := open_keyed (hval 0 _ v0 rfl rfl) h0
  exact redoApart_any key other n hn l kv ov rv W B0 B1 B2

theorem redoApart_holds : Rows.RedoApartSaid :=
  OpenClaim.holds_of_wide 8 Try.f8 rfl rfl rfl rfl rfl rfl rfl ⟨rfl, rfl, rfl, rfl, rfl⟩ rfl rfl rfl rfl rfl (by kernel_rfl) Try.func8 (by kernel_rfl)
    (of_decide_eq_true (by kernel_rfl)) (by unfold Func.isWrapper; rw [if_neg (by decide +kernel)]; exact ⟨rfl, rfl⟩)
    (fun os started H enc _ => redoApart_lifted os started H enc)

end Go.Proofs.Ytcjncidahjneaaa
