/-
  Laws that the claims of this seat use, of several texts in one: ResvX, ResvY, ResvZ, ResvWo, OpenResv. No condition of their own.
-/
import Derived.Laws.StructEq
import Derived.Test.YtkfggilildiflacJH0

namespace Go.Proofs.Ytkfggilildiflac
open Go.ChangeShapes Go.WideShapes Go.ChangeAt Go.RowKit
attribute [local irreducible] wpList wpListIn Oper.quietAt wpM
theorem nobodyRef_any (w0 : World) : Calls Try.prog 26 #[] w0 fun e w' => e = .returned (.agg #[.slice none 0 0, .int .i64 (-1), .int .i64 0, .bool false, .int .i64 0]) ∧ Below w0.heap.size w0 w' := by
  have hS := St.start w0
  go_enter Try.func26, Try.ntmps26
  repeat' (first | ((with_reducible refine Ad ?_); first | ((first | refine Bn Aa ?_ | refine Bm Aa ?_ | refine Az Aa ?_ | refine Bf Aa Ab hS ?_ | refine Bi Aa Ab hS ?_ | refine Ag Aa ?_ | refine Af Aa ?_ | refine Bs Aa ?_ | refine Bx Aa ?_ | refine Ao Aa ?_ | refine Bw Aa ?_ | refine Br Aa ?_ | refine Be Aa ?_ | refine Bg Aa ?_ | refine Bv Aa (fun hc => ?_) (fun hc => ?_) | refine Ay Aa ?_ | refine Am Aa ?_ | refine Aw Aa ?_ | refine Ap Aa ?_ | refine Ah Aa ?_ | refine Ax Aa ?_ | refine Ar Aa ?_ | refine Aj Aa ?_ | refine Ae Aa ?_ | refine Ai Aa ?_ | refine Bp Aa ?_ | refine Bo Aa ?_ | refine Bu Aa ?_ | refine Bc Aa ?_ | refine As Aa ?_ | refine Ak Aa ?_ | refine Aq Aa ?_ | refine Bj Aa ?_ | refine Bk Aa ?_) <;> refine Ac ?_) | ((first | refine Bh Aa Ab hS ?_ | refine Bt Aa Ab hS ?_ | refine Ba Aa Ab hS ?_ | refine Bd Aa Ab hS ?_); clear hS; intro b w hS; refine Ac ?_) | ((first | refine Av Aa Ab hS ?_ | refine Au Aa Ab hS ?_ | refine Bb Aa Ab hS ?_); clear hS; intro w hS; refine Ac ?_)) | ((fail_if_success (with_reducible refine Ad ?_)); first | go_step | go_step3 | rw [Exit.noGoto_normal] | rw [Exit.noGoto_ret] | rw [Exit.noGoto_exit]))
  exact post_cell (n := 5) Try.results26 (by kernel_rfl) (.inl rfl) _ _ _ _ rfl rfl (hS.blk 0 rfl) (by rfl) (⟨rfl, hS.below⟩)
theorem r_neB {P : Program} {o : Oper} {a : Act} {w : World} {t t' : TypeId} {x y : Operand} {m n q : Bool} (hop : o.op = .binOp .neq t x y t') (hx : evO a x = some (.bool m)) (hy : evO a y = some (.bool n)) (ht : P.underlying t = some .bool) (hq : (!(m == n)) = q) : (execOp a.eval o).run P w = .ok (.value (.bool q)) w := by
  unfold execOp; rw [hop]; subst hq
  simp [Ct hx, Ct hy, eqGuard, binOp, run_equal_bool w t m n ht]
set_option maxRecDepth 100000 in
theorem neReg (x1 x2 y1 y2 : Int) (w : World) : (binOp .neq 39 (.agg #[.int .i64 x1, .int .i64 x2]) (.agg #[.int .i64 y1, .int .i64 y2])).run Try.prog w = .ok (.bool (!(x1 == y1 && x2 == y2))) w := by
  rw [run_neq_struct, run_equalIn_agg w 9999 39 _ _ (by kernel_rfl) (by kernel_rfl)]
  unfold Program.fieldsOf
  rw [show Try.prog.underlying 39 = _ from Try.underlying39]
  by_cases h1 : x1 = y1
  · by_cases h2 : x2 = y2
    · simp [Op.eqFields, go_sem, h1, h2]
    · simp [Op.eqFields, go_sem, h1, h2]
  · simp [Op.eqFields, go_sem, h1]
theorem r_neReg {o : Oper} {a : Act} {w : World} {t' : TypeId} {x y : Operand} {x1 x2 y1 y2 : Int} {q : Bool} (hop : o.op = .binOp .neq 39 x y t') (hx : evO a x = some (.agg #[.int .i64 x1, .int .i64 x2])) (hy : evO a y = some (.agg #[.int .i64 y1, .int .i64 y2])) (hg : Try.prog.eqGuardType Try.prog.depth 39 = false) (hq : (!(x1 == y1 && x2 == y2)) = q) : (execOp a.eval o).run Try.prog w = .ok (.value (.bool q)) w := by
  unfold execOp; rw [hop]; subst hq
  simp [Ct hx, Ct hy, Sem.run_bind, run_eqGuard_agg w .neq 39 x y _ _ hg, neReg]
theorem take_reg {l : List Rg} {k : Nat} (hk : k < l.length) : l.take (k + 1) = l.take k ++ [l.getD k (0, 0)] := by
  rw [List.take_succ_eq_append_getElem hk, List.getD_eq_getElem?_getD, List.getElem?_eq_getElem hk]; rfl
set_option maxRecDepth 100000 in
set_option maxHeartbeats 8000000 in
theorem sameRef_any {B : Bool} (la lb : List Rg) (va vb : Value) (ha ta ga hb tb gb : Int) (sa sb : Bool) (hB : B = true ↔ la = lb ∧ ha = hb ∧ ta = tb ∧ sa = sb ∧ ga = gb) (w0 : World) (hva : RegsAt w0 va la) (hvb : RegsAt w0 vb lb) (hm : la.length ≤ 1000000) :
    Calls Try.prog 12 #[.agg #[va, .int .i64 ha, .int .i64 ta, .bool sa, .int .i64 ga], .agg #[vb, .int .i64 hb, .int .i64 tb, .bool sb, .int .i64 gb]] w0 fun e w' => e = .returned (.bool B) ∧ Below w0.heap.size w0 w' := by
  obtain ⟨pa, ca, rfl, hca⟩ := hva.slice
  obtain ⟨pb, cb, rfl, hcb⟩ := hvb.slice
  have hS := St.start w0
  by_cases hall : la.length = lb.length ∧ ha = hb ∧ ta = tb ∧ sa = sb ∧ ga = gb
  · obtain ⟨hlen, rfl, rfl, rfl, rfl⟩ := hall
    have hB2 : B = true ↔ la = lb := by rw [hB]; simp
    clear hB
    go_enter Try.func12, Try.ntmps12
    repeat' (first | ((with_reducible refine Ad ?_); first | ((first | refine Bn Aa ?_ | refine Bm Aa ?_ | refine Az Aa ?_ | refine Bf Aa Ab hS ?_ | refine Bi Aa Ab hS ?_ | refine Ag Aa ?_ | refine Af Aa ?_ | refine Bs Aa ?_ | refine Bx Aa ?_ | refine Ao Aa ?_ | refine Bw Aa ?_ | refine Br Aa ?_ | refine Be Aa ?_ | refine Bg Aa ?_ | refine Bv Aa (fun hc => ?_) (fun hc => ?_) | refine Ay Aa ?_ | refine Am Aa ?_ | refine Aw Aa ?_ | refine Ap Aa ?_ | refine Ah Aa ?_ | refine Ax Aa ?_ | refine Ar Aa ?_ | refine Aj Aa ?_ | refine Ae Aa ?_ | refine Ai Aa ?_ | refine Bp Aa ?_ | refine Bo Aa ?_ | refine Bu Aa ?_ | refine Bc Aa ?_ | refine As Aa ?_ | refine Ak Aa ?_ | refine Aq Aa ?_ | refine Bj Aa ?_ | refine Bk Aa ?_) <;> refine Ac ?_) | ((first | refine Bh Aa Ab hS ?_ | refine Bt Aa Ab hS ?_ | refine Ba Aa Ab hS ?_ | refine Bd Aa Ab hS ?_); clear hS; intro b w hS; refine Ac ?_) | ((first | refine Av Aa Ab hS ?_ | refine Au Aa Ab hS ?_ | refine Bb Aa Ab hS ?_); clear hS; intro w hS; refine Ac ?_) | (refine Stp.go Aa (by rfl) (by rfl) (r_neB (by rfl) (by rfl) (by rfl) (by rfl) (show (!(sa == sa)) = false by simp)) ?_; refine Ac ?_)) | ((fail_if_success (with_reducible refine Ad ?_)); first | go_step | go_step3 | rw [Exit.noGoto_normal] | rw [Exit.noGoto_ret] | rw [Exit.noGoto_exit]))
    rename_i b2 z1 z2 z3
    go_loopw [5] (fun u5 wr => ∃ k : Nat, k ≤ la.length ∧ u5 = .int .i64 (k : Int) ∧ la.take k = lb.take k ∧ St w0 wr [(b, #[.slice pb lb.length cb, .int .i64 ha, .int .i64 ta, .bool sa, .int .i64 ga], 24), (b2, #[.slice pa la.length ca, .int .i64 ha, .int .i64 ta, .bool sa, .int .i64 ga], 24)]) (fun u5 _ => la.length - (intOf u5).toNat)
    case atStart => exact ⟨0, by omega, rfl, rfl, hS⟩
    case round =>
      obtain ⟨k, hk, rfl, hpre, hS⟩ := hrel
      by_cases hlt : k < la.length
      · obtain ⟨r1, o1, c1, t1, f1, rfl, hb1, hcell1⟩ := hva.open_ (by omega)
        obtain ⟨r2, o2, c2, t2, f2, rfl, hb2, hcell2⟩ := hvb.open_ (by omega)
        have hlt2 : k < lb.length := by omega
        have q1 := csz_reg hcell1 hlt
        have q2 := csz_reg hcell2 hlt2
        have hcut1 := cut_reg hcell1 hlt
        have hcut2 := cut_reg hcell2 hlt2
        have ht1 := take_reg hlt
        have ht2 := take_reg hlt2
        obtain ⟨⟨x1, x2⟩, hx⟩ : ∃ x, la.getD k (0, 0) = x := ⟨_, rfl⟩
        obtain ⟨⟨y1, y2⟩, hy⟩ : ∃ y, lb.getD k (0, 0) = y := ⟨_, rfl⟩
        rw [hx] at hcut1 ht1
        rw [hy] at hcut2 ht2
        dsimp only at hcut1 hcut2
        obtain ⟨Q, hQ⟩ : ∃ Q, (!(x1 == y1 && x2 == y2)) = Q := ⟨_, rfl⟩
        repeat' (first | ((with_reducible refine Ad ?_); first | ((first | refine Bn Aa ?_ | refine Bm Aa ?_ | refine Az Aa ?_ | refine Bf Aa Ab hS ?_ | refine Bi Aa Ab hS ?_ | refine Ag Aa ?_ | refine Af Aa ?_ | refine Bs Aa ?_ | refine Bx Aa ?_ | refine Ao Aa ?_ | refine Bw Aa ?_ | refine Br Aa ?_ | refine Be Aa ?_ | refine Bg Aa ?_ | refine Bv Aa (fun hc => ?_) (fun hc => ?_) | refine Ay Aa ?_ | refine Am Aa ?_ | refine Aw Aa ?_ | refine Ap Aa ?_ | refine Ah Aa ?_ | refine Ax Aa ?_ | refine Ar Aa ?_ | refine Aj Aa ?_ | refine Ae Aa ?_ | refine Ai Aa ?_ | refine Bp Aa ?_ | refine Bo Aa ?_ | refine Bu Aa ?_ | refine Bc Aa ?_ | refine As Aa ?_ | refine Ak Aa ?_ | refine Aq Aa ?_ | refine Bj Aa ?_ | refine Bk Aa ?_) <;> refine Ac ?_) | ((first | refine Bh Aa Ab hS ?_ | refine Bt Aa Ab hS ?_ | refine Ba Aa Ab hS ?_ | refine Bd Aa Ab hS ?_); clear hS; intro b w hS; refine Ac ?_) | ((first | refine Av Aa Ab hS ?_ | refine Au Aa Ab hS ?_ | refine Bb Aa Ab hS ?_); clear hS; intro w hS; refine Ac ?_)) | ((fail_if_success (with_reducible refine Ad ?_)); first | go_step | go_step3 | rw [Exit.noGoto_normal] | rw [Exit.noGoto_ret] | rw [Exit.noGoto_exit]))
        refine Cd 11 (by kernel_rfl) (by kernel_rfl) ?_
        dsimp only [List.take, List.drop]
        iterate 11 (first | (refine Dd (fun _ => rfl) ?_; simp only [Act.put, List.setIfInBounds_toArray, List.set_cons_zero, List.set_cons_succ]) | (refine Cr rfl (fun _ => rfl) _ (fun w => r_alloc (a := ⟨#[], []⟩) rfl (by infer_instance)) ?_; simp only [Act.put, List.setIfInBounds_toArray, List.set_cons_zero, List.set_cons_succ]) | (refine Cm rfl (fun _ => rfl) (fun K hK => ?_); apply Exists.intro; apply Exists.intro; apply Exists.intro; apply Exists.intro; refine ⟨fun pB w' hw' hF => ?_, hK _ _ ?_⟩; (focus (exact Cg (by rfl) (by rfl) (by infer_instance) (by rfl) (by repeat (first | exact (fun _ h => absurd h List.not_mem_nil) | refine List.forall_mem_cons.2 ⟨by first | rfl | (simp only [Value.cells]; first | rfl | omega), ?_⟩)) (by (try conv => lhs; simp only [List.flatMap_cons, List.flatMap_nil, Value.cells, List.append_nil, List.cons_append, List.nil_append]); first | done | rfl) (by decide) (by decide))); clear hK K; simp only [Act.put, List.setIfInBounds_toArray, List.set_cons_zero, List.set_cons_succ]) | (refine Cx (fun _ => rfl) (fun K hK => ?_); apply Exists.intro; refine ⟨fun pB w' hw' hF => ?_, hK _ _ ?_⟩; (focus (have hZ := (Ab).call hS hw'; first | exact (q_val (r_neReg (by rfl) (by rfl) (by rfl) (by kernel_rfl) hQ)) | exact Dv | exact Cz | exact Dk Ab hZ (hv := by first | rfl | exact Bl | (rw [Array.getElem?_toList]; first | exact hcut1 | exact hcut2)) | exact Dr (by first | exact ((hZ).far hb1).1) (hv := by first | rfl | exact Bl | (rw [Array.getElem?_toList]; first | exact hcut1 | exact hcut2)) | exact Dr (by first | exact ((hZ).far hb2).1) (hv := by first | rfl | exact Bl | (rw [Array.getElem?_toList]; first | exact hcut1 | exact hcut2)) | exact Dl Ab hZ (hv := by first | exact Bq _ _ (by (try simp only [Ca, Ce, Bz, List.length_append, List.length_set, zs_len, List.length_take, List.length_drop, List.length_cons, List.length_nil]); first | done | rfl | omega) | (first | exact hcut1 | exact hcut2) | rfl) | exact Dt (by first | exact ((hZ).far hb1).1) (hv := by first | exact Bq _ _ (by (try simp only [Ca, Ce, Bz, List.length_append, List.length_set, zs_len, List.length_take, List.length_drop, List.length_cons, List.length_nil]); first | done | rfl | omega) | (first | exact hcut1 | exact hcut2) | rfl) | exact Dt (by first | exact ((hZ).far hb2).1) (hv := by first | exact Bq _ _ (by (try simp only [Ca, Ce, Bz, List.length_append, List.length_set, zs_len, List.length_take, List.length_drop, List.length_cons, List.length_nil]); first | done | rfl | omega) | (first | exact hcut1 | exact hcut2) | rfl) | exact Ci | exact Cf | exact Dz | exact Dx | exact Co | exact Dy | exact Dw | exact Dn | exact Dm | exact Dc | exact Cp | exact Cw | exact Cq | exact Ch | exact Db (hv' := by first | rfl | exact Bl | (rw [Array.getElem?_toList]; first | exact hcut1 | exact hcut2)) | exact Cy | exact Cj | exact Cc | exact Cl | exact Du | exact Ds | exact Ea | exact Dj | exact Da | exact Ck | exact Dg | exact Df | exact Cn)); clear hK K; simp only [Act.put, List.setIfInBounds_toArray, List.set_cons_zero, List.set_cons_succ]))
        refine Di ?_
        intro pB w hcq hfq hnq
        replace hS := (Ab).news hS hcq _ (by first | decide | simp) hfq hnq
        first | simp only [List.map_nil, List.nil_append] at hS | simp only [List.map_cons, List.map_nil, List.cons_append, List.nil_append] at hS
        clear hcq hfq hnq
        try dsimp only
        cases Q with
        | true =>
          have hne : B = false := Bool.eq_false_iff.2 fun hb => by
            have e := hB2.1 hb
            subst e
            rw [hx] at hy
            simp only [Prod.mk.injEq] at hy
            obtain ⟨rfl, rfl⟩ := hy
            simp at hQ
          subst hne
          repeat' (first | ((with_reducible refine Ad ?_); first | ((first | refine Bn Aa ?_ | refine Bm Aa ?_ | refine Az Aa ?_ | refine Bf Aa Ab hS ?_ | refine Bi Aa Ab hS ?_ | refine Ag Aa ?_ | refine Af Aa ?_ | refine Bs Aa ?_ | refine Bx Aa ?_ | refine Ao Aa ?_ | refine Bw Aa ?_ | refine Br Aa ?_ | refine Be Aa ?_ | refine Bg Aa ?_ | refine Bv Aa (fun hc => ?_) (fun hc => ?_) | refine Ay Aa ?_ | refine Am Aa ?_ | refine Aw Aa ?_ | refine Ap Aa ?_ | refine Ah Aa ?_ | refine Ax Aa ?_ | refine Ar Aa ?_ | refine Aj Aa ?_ | refine Ae Aa ?_ | refine Ai Aa ?_ | refine Bp Aa ?_ | refine Bo Aa ?_ | refine Bu Aa ?_ | refine Bc Aa ?_ | refine As Aa ?_ | refine Ak Aa ?_ | refine Aq Aa ?_ | refine Bj Aa ?_ | refine Bk Aa ?_) <;> refine Ac ?_) | ((first | refine Bh Aa Ab hS ?_ | refine Bt Aa Ab hS ?_ | refine Ba Aa Ab hS ?_ | refine Bd Aa Ab hS ?_); clear hS; intro b w hS; refine Ac ?_) | ((first | refine Av Aa Ab hS ?_ | refine Au Aa Ab hS ?_ | refine Bb Aa Ab hS ?_); clear hS; intro w hS; refine Ac ?_)) | ((fail_if_success (with_reducible refine Ad ?_)); first | go_step | go_step3 | rw [Exit.noGoto_normal] | rw [Exit.noGoto_ret] | rw [Exit.noGoto_exit]))
          go_ret
          exact ⟨rfl, hS.below⟩
        | false =>
          have hxy : x1 = y1 ∧ x2 = y2 := by simpa using hQ
          repeat' (first | ((with_reducible refine Ad ?_); first | ((first | refine Bn Aa ?_ | refine Bm Aa ?_ | refine Az Aa ?_ | refine Bf Aa Ab hS ?_ | refine Bi Aa Ab hS ?_ | refine Ag Aa ?_ | refine Af Aa ?_ | refine Bs Aa ?_ | refine Bx Aa ?_ | refine Ao Aa ?_ | refine Bw Aa ?_ | refine Br Aa ?_ | refine Be Aa ?_ | refine Bg Aa ?_ | refine Bv Aa (fun hc => ?_) (fun hc => ?_) | refine Ay Aa ?_ | refine Am Aa ?_ | refine Aw Aa ?_ | refine Ap Aa ?_ | refine Ah Aa ?_ | refine Ax Aa ?_ | refine Ar Aa ?_ | refine Aj Aa ?_ | refine Ae Aa ?_ | refine Ai Aa ?_ | refine Bp Aa ?_ | refine Bo Aa ?_ | refine Bu Aa ?_ | refine Bc Aa ?_ | refine As Aa ?_ | refine Ak Aa ?_ | refine Aq Aa ?_ | refine Bj Aa ?_ | refine Bk Aa ?_) <;> refine Ac ?_) | ((first | refine Bh Aa Ab hS ?_ | refine Bt Aa Ab hS ?_ | refine Ba Aa Ab hS ?_ | refine Bd Aa Ab hS ?_); clear hS; intro b w hS; refine Ac ?_) | ((first | refine Av Aa Ab hS ?_ | refine Au Aa Ab hS ?_ | refine Bb Aa Ab hS ?_); clear hS; intro w hS; refine Ac ?_)) | ((fail_if_success (with_reducible refine Ad ?_)); first | go_step | go_step3 | rw [Exit.noGoto_normal] | rw [Exit.noGoto_ret] | rw [Exit.noGoto_exit]))
          go_roundw
          case rel => exact ⟨k + 1, by omega, by push_cast; rfl, by rw [ht1, ht2, hpre, hxy.1, hxy.2], hS⟩
          case measure => simp [intOf]; omega
      · obtain rfl : k = la.length := by omega
        have e : la = lb := by rw [List.take_length, hlen, List.take_length] at hpre; exact hpre
        have hT := hB2.2 e
        subst hT
        repeat' (first | ((with_reducible refine Ad ?_); first | ((first | refine Bn Aa ?_ | refine Bm Aa ?_ | refine Az Aa ?_ | refine Bf Aa Ab hS ?_ | refine Bi Aa Ab hS ?_ | refine Ag Aa ?_ | refine Af Aa ?_ | refine Bs Aa ?_ | refine Bx Aa ?_ | refine Ao Aa ?_ | refine Bw Aa ?_ | refine Br Aa ?_ | refine Be Aa ?_ | refine Bg Aa ?_ | refine Bv Aa (fun hc => ?_) (fun hc => ?_) | refine Ay Aa ?_ | refine Am Aa ?_ | refine Aw Aa ?_ | refine Ap Aa ?_ | refine Ah Aa ?_ | refine Ax Aa ?_ | refine Ar Aa ?_ | refine Aj Aa ?_ | refine Ae Aa ?_ | refine Ai Aa ?_ | refine Bp Aa ?_ | refine Bo Aa ?_ | refine Bu Aa ?_ | refine Bc Aa ?_ | refine As Aa ?_ | refine Ak Aa ?_ | refine Aq Aa ?_ | refine Bj Aa ?_ | refine Bk Aa ?_) <;> refine Ac ?_) | ((first | refine Bh Aa Ab hS ?_ | refine Bt Aa Ab hS ?_ | refine Ba Aa Ab hS ?_ | refine Bd Aa Ab hS ?_); clear hS; intro b w hS; refine Ac ?_) | ((first | refine Av Aa Ab hS ?_ | refine Au Aa Ab hS ?_ | refine Bb Aa Ab hS ?_); clear hS; intro w hS; refine Ac ?_)) | ((fail_if_success (with_reducible refine Ad ?_)); first | go_step | go_step3 | rw [Exit.noGoto_normal] | rw [Exit.noGoto_ret] | rw [Exit.noGoto_exit]))
        go_ret
        exact ⟨rfl, hS.below⟩
  · have hne : B = false := Bool.eq_false_iff.2 fun hb1 => hall (by
      obtain ⟨h1, h2⟩ := hB.1 hb1
      exact ⟨by rw [h1], h2⟩)
    subst hne
    clear hB
    obtain ⟨Q, hQ⟩ : ∃ Q, (!(sa == sb)) = Q := ⟨_, rfl⟩
    have hQs : Q = false → sa = sb := fun h => by subst hQ; simpa using h
    go_enter Try.func12, Try.ntmps12
    cases Q
    all_goals
      repeat' (first | ((with_reducible refine Ad ?_); first | ((first | refine Bn Aa ?_ | refine Bm Aa ?_ | refine Az Aa ?_ | refine Bf Aa Ab hS ?_ | refine Bi Aa Ab hS ?_ | refine Ag Aa ?_ | refine Af Aa ?_ | refine Bs Aa ?_ | refine Bx Aa ?_ | refine Ao Aa ?_ | refine Bw Aa ?_ | refine Br Aa ?_ | refine Be Aa ?_ | refine Bg Aa ?_ | refine Bv Aa (fun hc => ?_) (fun hc => ?_) | refine Ay Aa ?_ | refine Am Aa ?_ | refine Aw Aa ?_ | refine Ap Aa ?_ | refine Ah Aa ?_ | refine Ax Aa ?_ | refine Ar Aa ?_ | refine Aj Aa ?_ | refine Ae Aa ?_ | refine Ai Aa ?_ | refine Bp Aa ?_ | refine Bo Aa ?_ | refine Bu Aa ?_ | refine Bc Aa ?_ | refine As Aa ?_ | refine Ak Aa ?_ | refine Aq Aa ?_ | refine Bj Aa ?_ | refine Bk Aa ?_) <;> refine Ac ?_) | ((first | refine Bh Aa Ab hS ?_ | refine Bt Aa Ab hS ?_ | refine Ba Aa Ab hS ?_ | refine Bd Aa Ab hS ?_); clear hS; intro b w hS; refine Ac ?_) | ((first | refine Av Aa Ab hS ?_ | refine Au Aa Ab hS ?_ | refine Bb Aa Ab hS ?_); clear hS; intro w hS; refine Ac ?_) | (refine Stp.go Aa (by rfl) (by rfl) (r_neB (by rfl) (by rfl) (by rfl) (by rfl) hQ) ?_; refine Ac ?_)) | ((fail_if_success (with_reducible refine Ad ?_)); first | go_step | go_step3 | rw [Exit.noGoto_normal] | rw [Exit.noGoto_ret] | rw [Exit.noGoto_exit]))
      all_goals first | (go_ret; exact ⟨rfl, hS.below⟩) | (exfalso; exact hall ⟨by omega, by omega, by omega, hQs rfl, by omega⟩)
end Go.Proofs.Ytkfggilildiflac

namespace Go.Proofs.Ytkfggilildiflac
open Go.ChangeShapes Go.WideShapes Go.ChangeAt Go.RowKit
attribute [local irreducible] wpList wpListIn Oper.quietAt wpM
theorem s_app {ops : Array Oper} {Q : Exit → Act → World → Prop} {o : Oper} {rest : List Oper} {a : Act} {w W0 : World} {l : List Rg} {sv : Value} {Lr L : List Blk} {who key : Int} {nb : Nat} {x y : Operand}
    (hS : St W0 w ((nb, #[.int .i64 who, .int .i64 key], 39) :: (Lr ++ L))) (hR : RgL l sv Lr) (hm : l.length ≤ 1000)
    (hw : Region.wanted o (yielded ops a.tmps) = true) (hop : o.op = .call { callee := .builtin .append, args := #[x, y], argTypes := #[22, 22] }) (hx : evO a x = some sv) (hy : evO a y = some (.slice (some ⟨nb, 0, none⟩) 1 1))
    (hk : ∀ sv' Lr' w', RgL (l ++ [(who, key)]) sv' Lr' → St W0 w' (Lr' ++ L) → wpList Try.prog ops Q rest (a.put o.dst sv') w') : wpList Try.prog ops Q (o :: rest) a w := by
  have hsrc : ∀ (w : World), blk w nb = some (.cells #[.int .i64 who, .int .i64 key] 39 (0, 0)) → ∀ j v, (rgs [(who, key)])[j]? = some v → w.cell? ((⟨nb, 0, none⟩ : Addr).add j) = some v := fun w hb => src_blk hb (fun j v h => by rw [Nat.zero_add]; exact h)
  rcases hR with ⟨rfl, rfl, rfl⟩ | ⟨g, c, sp, rfl, h1, h2, h3, rfl⟩
  · simp only [List.nil_append] at hS
    refine s_append0 Aa Ab hS hw hop hx hy (by infer_instance) (xs := rgs [(who, key)]) (hsrc _ (hS.blk 0 rfl)) (by rfl) (by unfold maxLen; omega) ?_
    intro by2 cy2 S2 w' hq1 hq2 hq3 hS2
    exact hk _ _ _ (.inr ⟨by2, cy2, S2, rfl, hq1, hq2, hq3, rfl⟩) (hS2.erase 1)
  · simp only [List.cons_append, List.nil_append] at hS
    refine s_append Aa Ab hS hw hop hx hy (by infer_instance) (by exact at_ 1 rfl) (olds := rgs l) (spare := sp) (by rfl) (rgs_len l) h1 h3 (xs := rgs [(who, key)]) (hsrc _ (hS.blk 0 rfl)) (by rfl) (rgs_one _) (by unfold maxLen at h2 ⊢; omega) rfl ?_
    intro by2 cy2 S2 w' hq1 hq2 hq3 hS2
    have e : l.length + 1 = (l ++ [(who, key)]).length := by rw [List.length_append]; rfl
    refine hk _ [_] _ (.inr ⟨by2, cy2, S2, by rw [e], by rw [← e]; exact hq1, hq2, by rw [← e]; exact hq3, rfl⟩) ?_
    rw [rgs_app]
    exact hS2.erase 1
/-! ### The document's 'with', round by round -/
def withI (l : List Rg) (who key : Int) (k : Nat) (D : Bool) (out : List Rg) : Prop :=
  if D then out = insR (l.take k) who key ∧ ∃ x ∈ l.take k, who ≤ x.1 else out = l.take k ∧ ∀ x ∈ l.take k, x.1 < who
theorem ins_low {l : List Rg} {who key : Int} (h : ∀ x ∈ l, x.1 < who) : insR l who key = l ++ [(who, key)] := by
  unfold insR
  rw [List.filter_eq_self.2 (fun x hx => by simpa using h x hx), List.filter_eq_nil_iff.2 (fun x hx => by have := h x hx; simp; omega)]
theorem ins_snoc {l : List Rg} {who key : Int} {y : Rg} (hy : who < y.1) : insR (l ++ [y]) who key = insR l who key ++ [y] := by
  unfold insR
  rw [List.filter_append, List.filter_append]
  simp [show ¬ y.1 < who by omega, hy]
theorem ins_at {l : List Rg} {who key : Int} {y : Rg} (hy : y.1 = who) : insR (l ++ [y]) who key = insR l who key := by
  unfold insR
  rw [List.filter_append, List.filter_append]
  simp [hy]
theorem ok_take_lt {l : List Rg} (hl : okL l) {k : Nat} (hk : k < l.length) : ∀ x ∈ l.take k, x.1 < (l.getD k (0, 0)).1 := by
  intro x hx
  have h1 : okL (l.take k ++ l.getD k (0, 0) :: l.drop (k + 1)) := by rw [← drop_getD hk, List.take_append_drop]; exact hl
  clear hl hk
  generalize l.take k = A at h1 hx
  induction A with
  | nil => cases hx
  | cons z A ih =>
    rcases List.mem_cons.1 hx with rfl | hx
    · exact okL_lt h1 _ (List.mem_append.2 (.inr (List.mem_cons_self ..)))
    · exact ih (okL_tail h1) hx
theorem withI_step {l : List Rg} {who key : Int} {k : Nat} {D : Bool} {out : List Rg} (hl : okL l) (hk : k < l.length) (h : withI l who key k D out) :
    (D = false ∧ who ≤ (l.getD k (0, 0)).1 → withI l who key (k + 1) true (if (l.getD k (0, 0)).1 = who then out ++ [(who, key)] else out ++ [(who, key)] ++ [l.getD k (0, 0)])) ∧
    (D = true ∨ (l.getD k (0, 0)).1 < who → (l.getD k (0, 0)).1 ≠ who ∧ withI l who key (k + 1) D (out ++ [l.getD k (0, 0)])) := by
  have hlt := ok_take_lt hl hk
  have ht := take_reg hk
  unfold withI at h ⊢
  rw [ht]
  constructor
  · rintro ⟨rfl, hy⟩
    rw [if_neg (by decide)] at h
    obtain ⟨rfl, hlow⟩ := h
    rw [if_pos rfl]
    refine ⟨?_, _, List.mem_append.2 (.inr (List.mem_singleton.2 rfl)), hy⟩
    split
    · next he => rw [ins_at he, ins_low hlow]
    · next he => rw [ins_snoc (by omega), ins_low hlow]
  · intro hD
    cases D with
    | true =>
      rw [if_pos rfl] at h ⊢
      obtain ⟨rfl, x, hx, hwx⟩ := h
      have := hlt x hx
      exact ⟨by omega, (ins_snoc (by omega)).symm, x, List.mem_append.2 (.inl hx), hwx⟩
    | false =>
      rw [if_neg (by decide)] at h ⊢
      obtain ⟨rfl, hlow⟩ := h
      have hy := hD.resolve_left (by decide)
      refine ⟨by omega, rfl, fun x hx => ?_⟩
      rcases List.mem_append.1 hx with hx | hx
      · exact hlow x hx
      · rw [List.mem_singleton.1 hx]; exact hy
end Go.Proofs.Ytkfggilildiflac

namespace Go.Proofs.Ytkfggilildiflac
open Go.ChangeShapes Go.WideShapes Go.ChangeAt Go.RowKit
attribute [local irreducible] wpList wpListIn Oper.quietAt wpM
set_option maxRecDepth 100000 in
set_option maxHeartbeats 8000000 in
theorem withRef_any (l : List Rg) (hl : okL l) (h t g who key : Int) (s : Bool) (v : Value) (w0 : World) (hv : RegsAt w0 v l) (hm : l.length ≤ 100) (x : List Rg) (hx : insR l who key = x) (F : Bool) (hF : decide (x.length ≤ 4) = F) :
    Calls Try.prog 38 #[.agg #[v, .int .i64 h, .int .i64 t, .bool s, .int .i64 g], .int .i64 who, .int .i64 key] w0 fun e w' => ∃ sv, e = .returned (.tuple #[.agg #[sv, .int .i64 h, .int .i64 t, .bool s, .int .i64 g], .bool F]) ∧ OwnRegs w0.heap.size w' sv x ∧ Below w0.heap.size w0 w' := by
  obtain ⟨p, c, rfl, hc⟩ := hv.slice
  have hS := St.start w0
  go_enter Try.func38, Try.ntmps38
  repeat' (first | ((with_reducible refine Ad ?_); first | ((first | refine Bn Aa ?_ | refine Bm Aa ?_ | refine Az Aa ?_ | refine Bf Aa Ab hS ?_ | refine Bi Aa Ab hS ?_ | refine Ag Aa ?_ | refine Af Aa ?_ | refine Bs Aa ?_ | refine Bx Aa ?_ | refine Ao Aa ?_ | refine Bw Aa ?_ | refine Br Aa ?_ | refine Be Aa ?_ | refine Bg Aa ?_ | refine Bv Aa (fun hc => ?_) (fun hc => ?_) | refine Ay Aa ?_ | refine Am Aa ?_ | refine Aw Aa ?_ | refine Ap Aa ?_ | refine Ah Aa ?_ | refine Ax Aa ?_ | refine Ar Aa ?_ | refine Aj Aa ?_ | refine Ae Aa ?_ | refine Ai Aa ?_ | refine Bp Aa ?_ | refine Bo Aa ?_ | refine Bu Aa ?_ | refine Bc Aa ?_ | refine As Aa ?_ | refine Ak Aa ?_ | refine Aq Aa ?_ | refine Bj Aa ?_ | refine Bk Aa ?_) <;> refine Ac ?_) | ((first | refine Bh Aa Ab hS ?_ | refine Bt Aa Ab hS ?_ | refine Ba Aa Ab hS ?_ | refine Bd Aa Ab hS ?_); clear hS; intro b w hS; refine Ac ?_) | ((first | refine Av Aa Ab hS ?_ | refine Au Aa Ab hS ?_ | refine Bb Aa Ab hS ?_); clear hS; intro w hS; refine Ac ?_)) | ((fail_if_success (with_reducible refine Ad ?_)); first | go_step | go_step3 | rw [Exit.noGoto_normal] | rw [Exit.noGoto_ret] | rw [Exit.noGoto_exit]))
  rename_i b3 z1 z2 z3
  go_loopw [8, 9, 10] (fun u8 u9 u10 wr => ∃ (k : Nat) (D : Bool) (out : List Rg) (Lr : List Blk), k ≤ l.length ∧ out.length ≤ k + 1 ∧ u10 = .int .i64 (k : Int) ∧ u9 = .bool D ∧ withI l who key k D out ∧ RgL out u8 Lr ∧ St w0 wr ((b, #[.slice none 0 0, .int .i64 0, .int .i64 0, .bool false, .int .i64 0], 24) :: (b3, #[.slice p l.length c, .int .i64 h, .int .i64 t, .bool s, .int .i64 g], 24) :: Lr)) (fun _ _ u10 _ => l.length - (intOf u10).toNat)
  case atStart => exact ⟨0, false, [], [], by omega, by simp, rfl, rfl, ⟨rfl, fun x hx => by cases hx⟩, .inl ⟨rfl, rfl, rfl⟩, hS⟩
  case round =>
    obtain ⟨k, D, out, Lr, hk, hol, rfl, rfl, hI, hR, hS⟩ := hrel
    obtain ⟨p1, c1, rfl⟩ := hR.slice
    by_cases hlt : k < l.length
    · obtain ⟨rb, o, cs, ty, fr, rfl, hb, hcell⟩ := hv.open_ (by omega)
      have q1 := csz_reg hcell hlt
      have q2 := who_cell hcell hlt
      have hcut := cut_reg hcell hlt
      obtain ⟨hA, hB⟩ := withI_step hl hlt hI
      obtain ⟨⟨y1, y2⟩, hy⟩ : ∃ y, l.getD k (0, 0) = y := ⟨_, rfl⟩
      rw [hy] at q2 hcut hA hB
      dsimp only at q2 hcut hA hB
      by_cases c1' : D = false ∧ who ≤ y1
      · obtain ⟨rfl, hwy⟩ := c1'
        have hA := hA ⟨rfl, hwy⟩
        have hout : out.length ≤ k := by
          unfold withI at hI
          rw [if_neg (by decide)] at hI
          rw [hI.1, List.length_take]
          omega
        repeat' (first | ((with_reducible refine Ad ?_); first | ((first | refine Bn Aa ?_ | refine Bm Aa ?_ | refine Az Aa ?_ | refine Bf Aa Ab hS ?_ (hv := by first | rfl | exact Bl | (rw [Array.getElem?_toList]; first | exact q2 | exact hcut)) | refine Dp Aa (by first | exact ((hS).far hb).1) ?_ (hv := by first | rfl | exact Bl | (rw [Array.getElem?_toList]; first | exact q2 | exact hcut)) | refine Bi Aa Ab hS ?_ (hv := by first | exact Bq _ _ (by (try simp only [Ca, Ce, Bz, List.length_append, List.length_set, zs_len, List.length_take, List.length_drop, List.length_cons, List.length_nil]); first | done | rfl | omega) | (first | exact q2 | exact hcut) | rfl) | refine Dq Aa (by first | exact ((hS).far hb).1) ?_ (hv := by first | exact Bq _ _ (by (try simp only [Ca, Ce, Bz, List.length_append, List.length_set, zs_len, List.length_take, List.length_drop, List.length_cons, List.length_nil]); first | done | rfl | omega) | (first | exact q2 | exact hcut) | rfl) | refine Ag Aa ?_ | refine Af Aa ?_ | refine Bs Aa ?_ | refine Bx Aa ?_ | refine Ao Aa ?_ | refine Bw Aa ?_ | refine Br Aa ?_ | refine Be Aa ?_ | refine Bg Aa ?_ | refine Bv Aa (fun hc => ?_) (fun hc => ?_) | refine Ay Aa ?_ | refine Am Aa ?_ | refine Aw Aa ?_ | refine Ap Aa ?_ | refine Ah Aa ?_ | refine Ax Aa ?_ (hv' := by first | rfl | exact Bl | (rw [Array.getElem?_toList]; first | exact q2 | exact hcut)) | refine Ar Aa ?_ | refine Aj Aa ?_ | refine Ae Aa ?_ | refine Ai Aa ?_ | refine Bp Aa ?_ | refine Bo Aa ?_ | refine Bu Aa ?_ | refine Bc Aa ?_ | refine As Aa ?_ | refine Ak Aa ?_ | refine Aq Aa ?_ | refine Bj Aa ?_ | refine Bk Aa ?_) <;> refine Ac ?_) | ((first | refine Bh Aa Ab hS ?_ | refine Bt Aa Ab hS ?_ | refine Ba Aa Ab hS ?_ | refine Bd Aa Ab hS ?_); clear hS; intro b w hS; refine Ac ?_) | ((first | refine Av Aa Ab hS ?_ | refine Au Aa Ab hS ?_ | refine Bb Aa Ab hS ?_); clear hS; intro w hS; refine Ac ?_)) | ((fail_if_success (with_reducible refine Ad ?_)); first | go_step | go_step3 | rw [Exit.noGoto_normal] | rw [Exit.noGoto_ret] | rw [Exit.noGoto_exit]))
        refine s_app (L := [_, _]) (hS.perm (.cons _ (List.perm_append_comm (l₁ := [_, _])))) hR (by omega) (by rfl) (by rfl) (by rfl) (by rfl) ?_
        intro sv2 Lr2 w2 hR2 hS2
        obtain ⟨p2, c2, rfl⟩ := hR2.slice
        refine Ac ?_
        replace hS := hS2.perm (List.perm_append_comm (l₂ := [_, _]))
        simp only [List.cons_append, List.nil_append] at hS
        clear hS2
        by_cases hyw : y1 = who
        · rw [if_pos hyw] at hA
          repeat' (first | ((with_reducible refine Ad ?_); first | ((first | refine Bn Aa ?_ | refine Bm Aa ?_ | refine Az Aa ?_ | refine Bf Aa Ab hS ?_ (hv := by first | rfl | exact Bl | (rw [Array.getElem?_toList]; first | exact q2 | exact hcut)) | refine Dp Aa (by first | exact ((hS).far hb).1) ?_ (hv := by first | rfl | exact Bl | (rw [Array.getElem?_toList]; first | exact q2 | exact hcut)) | refine Bi Aa Ab hS ?_ (hv := by first | exact Bq _ _ (by (try simp only [Ca, Ce, Bz, List.length_append, List.length_set, zs_len, List.length_take, List.length_drop, List.length_cons, List.length_nil]); first | done | rfl | omega) | (first | exact q2 | exact hcut) | rfl) | refine Dq Aa (by first | exact ((hS).far hb).1) ?_ (hv := by first | exact Bq _ _ (by (try simp only [Ca, Ce, Bz, List.length_append, List.length_set, zs_len, List.length_take, List.length_drop, List.length_cons, List.length_nil]); first | done | rfl | omega) | (first | exact q2 | exact hcut) | rfl) | refine Ag Aa ?_ | refine Af Aa ?_ | refine Bs Aa ?_ | refine Bx Aa ?_ | refine Ao Aa ?_ | refine Bw Aa ?_ | refine Br Aa ?_ | refine Be Aa ?_ | refine Bg Aa ?_ | refine Bv Aa (fun hc => ?_) (fun hc => ?_) | refine Ay Aa ?_ | refine Am Aa ?_ | refine Aw Aa ?_ | refine Ap Aa ?_ | refine Ah Aa ?_ | refine Ax Aa ?_ (hv' := by first | rfl | exact Bl | (rw [Array.getElem?_toList]; first | exact q2 | exact hcut)) | refine Ar Aa ?_ | refine Aj Aa ?_ | refine Ae Aa ?_ | refine Ai Aa ?_ | refine Bp Aa ?_ | refine Bo Aa ?_ | refine Bu Aa ?_ | refine Bc Aa ?_ | refine As Aa ?_ | refine Ak Aa ?_ | refine Aq Aa ?_ | refine Bj Aa ?_ | refine Bk Aa ?_) <;> refine Ac ?_) | ((first | refine Bh Aa Ab hS ?_ | refine Bt Aa Ab hS ?_ | refine Ba Aa Ab hS ?_ | refine Bd Aa Ab hS ?_); clear hS; intro b w hS; refine Ac ?_) | ((first | refine Av Aa Ab hS ?_ | refine Au Aa Ab hS ?_ | refine Bb Aa Ab hS ?_); clear hS; intro w hS; refine Ac ?_)) | ((fail_if_success (with_reducible refine Ad ?_)); first | go_step | go_step3 | rw [Exit.noGoto_normal] | rw [Exit.noGoto_ret] | rw [Exit.noGoto_exit]))
          go_roundw
          case rel => exact ⟨k + 1, true, _, Lr2, by omega, by simp; omega, by push_cast; rfl, rfl, hA, hR2, hS⟩
          case measure => simp [intOf]; omega
        · rw [if_neg hyw] at hA
          repeat' (first | ((with_reducible refine Ad ?_); first | ((first | refine Bn Aa ?_ | refine Bm Aa ?_ | refine Az Aa ?_ | refine Bf Aa Ab hS ?_ (hv := by first | rfl | exact Bl | (rw [Array.getElem?_toList]; first | exact q2 | exact hcut)) | refine Dp Aa (by first | exact ((hS).far hb).1) ?_ (hv := by first | rfl | exact Bl | (rw [Array.getElem?_toList]; first | exact q2 | exact hcut)) | refine Bi Aa Ab hS ?_ (hv := by first | exact Bq _ _ (by (try simp only [Ca, Ce, Bz, List.length_append, List.length_set, zs_len, List.length_take, List.length_drop, List.length_cons, List.length_nil]); first | done | rfl | omega) | (first | exact q2 | exact hcut) | rfl) | refine Dq Aa (by first | exact ((hS).far hb).1) ?_ (hv := by first | exact Bq _ _ (by (try simp only [Ca, Ce, Bz, List.length_append, List.length_set, zs_len, List.length_take, List.length_drop, List.length_cons, List.length_nil]); first | done | rfl | omega) | (first | exact q2 | exact hcut) | rfl) | refine Ag Aa ?_ | refine Af Aa ?_ | refine Bs Aa ?_ | refine Bx Aa ?_ | refine Ao Aa ?_ | refine Bw Aa ?_ | refine Br Aa ?_ | refine Be Aa ?_ | refine Bg Aa ?_ | refine Bv Aa (fun hc => ?_) (fun hc => ?_) | refine Ay Aa ?_ | refine Am Aa ?_ | refine Aw Aa ?_ | refine Ap Aa ?_ | refine Ah Aa ?_ | refine Ax Aa ?_ (hv' := by first | rfl | exact Bl | (rw [Array.getElem?_toList]; first | exact q2 | exact hcut)) | refine Ar Aa ?_ | refine Aj Aa ?_ | refine Ae Aa ?_ | refine Ai Aa ?_ | refine Bp Aa ?_ | refine Bo Aa ?_ | refine Bu Aa ?_ | refine Bc Aa ?_ | refine As Aa ?_ | refine Ak Aa ?_ | refine Aq Aa ?_ | refine Bj Aa ?_ | refine Bk Aa ?_) <;> refine Ac ?_) | ((first | refine Bh Aa Ab hS ?_ | refine Bt Aa Ab hS ?_ | refine Ba Aa Ab hS ?_ | refine Bd Aa Ab hS ?_); clear hS; intro b w hS; refine Ac ?_) | ((first | refine Av Aa Ab hS ?_ | refine Au Aa Ab hS ?_ | refine Bb Aa Ab hS ?_); clear hS; intro w hS; refine Ac ?_)) | ((fail_if_success (with_reducible refine Ad ?_)); first | go_step | go_step3 | rw [Exit.noGoto_normal] | rw [Exit.noGoto_ret] | rw [Exit.noGoto_exit]))
          refine s_app (L := [_, _]) (hS.perm (.cons _ (List.perm_append_comm (l₁ := [_, _])))) hR2 (by simp; omega) (by rfl) (by rfl) (by rfl) (by rfl) ?_
          intro sv3 Lr3 w3 hR3 hS3
          obtain ⟨p3, c3, rfl⟩ := hR3.slice
          refine Ac ?_
          replace hS := hS3.perm (List.perm_append_comm (l₂ := [_, _]))
          simp only [List.cons_append, List.nil_append] at hS
          clear hS3
          repeat' (first | ((with_reducible refine Ad ?_); first | ((first | refine Bn Aa ?_ | refine Bm Aa ?_ | refine Az Aa ?_ | refine Bf Aa Ab hS ?_ (hv := by first | rfl | exact Bl | (rw [Array.getElem?_toList]; first | exact q2 | exact hcut)) | refine Dp Aa (by first | exact ((hS).far hb).1) ?_ (hv := by first | rfl | exact Bl | (rw [Array.getElem?_toList]; first | exact q2 | exact hcut)) | refine Bi Aa Ab hS ?_ (hv := by first | exact Bq _ _ (by (try simp only [Ca, Ce, Bz, List.length_append, List.length_set, zs_len, List.length_take, List.length_drop, List.length_cons, List.length_nil]); first | done | rfl | omega) | (first | exact q2 | exact hcut) | rfl) | refine Dq Aa (by first | exact ((hS).far hb).1) ?_ (hv := by first | exact Bq _ _ (by (try simp only [Ca, Ce, Bz, List.length_append, List.length_set, zs_len, List.length_take, List.length_drop, List.length_cons, List.length_nil]); first | done | rfl | omega) | (first | exact q2 | exact hcut) | rfl) | refine Ag Aa ?_ | refine Af Aa ?_ | refine Bs Aa ?_ | refine Bx Aa ?_ | refine Ao Aa ?_ | refine Bw Aa ?_ | refine Br Aa ?_ | refine Be Aa ?_ | refine Bg Aa ?_ | refine Bv Aa (fun hc => ?_) (fun hc => ?_) | refine Ay Aa ?_ | refine Am Aa ?_ | refine Aw Aa ?_ | refine Ap Aa ?_ | refine Ah Aa ?_ | refine Ax Aa ?_ (hv' := by first | rfl | exact Bl | (rw [Array.getElem?_toList]; first | exact q2 | exact hcut)) | refine Ar Aa ?_ | refine Aj Aa ?_ | refine Ae Aa ?_ | refine Ai Aa ?_ | refine Bp Aa ?_ | refine Bo Aa ?_ | refine Bu Aa ?_ | refine Bc Aa ?_ | refine As Aa ?_ | refine Ak Aa ?_ | refine Aq Aa ?_ | refine Bj Aa ?_ | refine Bk Aa ?_) <;> refine Ac ?_) | ((first | refine Bh Aa Ab hS ?_ | refine Bt Aa Ab hS ?_ | refine Ba Aa Ab hS ?_ | refine Bd Aa Ab hS ?_); clear hS; intro b w hS; refine Ac ?_) | ((first | refine Av Aa Ab hS ?_ | refine Au Aa Ab hS ?_ | refine Bb Aa Ab hS ?_); clear hS; intro w hS; refine Ac ?_)) | ((fail_if_success (with_reducible refine Ad ?_)); first | go_step | go_step3 | rw [Exit.noGoto_normal] | rw [Exit.noGoto_ret] | rw [Exit.noGoto_exit]))
          go_roundw
          case rel => exact ⟨k + 1, true, _, Lr3, by omega, by simp; omega, by push_cast; rfl, rfl, hA, hR3, hS⟩
          case measure => simp [intOf]; omega
      · obtain ⟨hyw, hB⟩ := hB (by cases D with | true => exact .inl rfl | false => exact .inr (by have : ¬ who ≤ y1 := fun hh => c1' ⟨rfl, hh⟩; omega))
        have hyD : D = false → y1 < who := fun hD => by
          have : ¬ who ≤ y1 := fun hh => c1' ⟨hD, hh⟩
          omega
        cases D
        all_goals
          first | have hyl := hyD rfl | skip
          clear hyD
          repeat' (first | ((with_reducible refine Ad ?_); first | ((first | refine Bn Aa ?_ | refine Bm Aa ?_ | refine Az Aa ?_ | refine Bf Aa Ab hS ?_ (hv := by first | rfl | exact Bl | (rw [Array.getElem?_toList]; first | exact q2 | exact hcut)) | refine Dp Aa (by first | exact ((hS).far hb).1) ?_ (hv := by first | rfl | exact Bl | (rw [Array.getElem?_toList]; first | exact q2 | exact hcut)) | refine Bi Aa Ab hS ?_ (hv := by first | exact Bq _ _ (by (try simp only [Ca, Ce, Bz, List.length_append, List.length_set, zs_len, List.length_take, List.length_drop, List.length_cons, List.length_nil]); first | done | rfl | omega) | (first | exact q2 | exact hcut) | rfl) | refine Dq Aa (by first | exact ((hS).far hb).1) ?_ (hv := by first | exact Bq _ _ (by (try simp only [Ca, Ce, Bz, List.length_append, List.length_set, zs_len, List.length_take, List.length_drop, List.length_cons, List.length_nil]); first | done | rfl | omega) | (first | exact q2 | exact hcut) | rfl) | refine Ag Aa ?_ | refine Af Aa ?_ | refine Bs Aa ?_ | refine Bx Aa ?_ | refine Ao Aa ?_ | refine Bw Aa ?_ | refine Br Aa ?_ | refine Be Aa ?_ | refine Bg Aa ?_ | refine Bv Aa (fun hc => ?_) (fun hc => ?_) | refine Ay Aa ?_ | refine Am Aa ?_ | refine Aw Aa ?_ | refine Ap Aa ?_ | refine Ah Aa ?_ | refine Ax Aa ?_ (hv' := by first | rfl | exact Bl | (rw [Array.getElem?_toList]; first | exact q2 | exact hcut)) | refine Ar Aa ?_ | refine Aj Aa ?_ | refine Ae Aa ?_ | refine Ai Aa ?_ | refine Bp Aa ?_ | refine Bo Aa ?_ | refine Bu Aa ?_ | refine Bc Aa ?_ | refine As Aa ?_ | refine Ak Aa ?_ | refine Aq Aa ?_ | refine Bj Aa ?_ | refine Bk Aa ?_) <;> refine Ac ?_) | ((first | refine Bh Aa Ab hS ?_ | refine Bt Aa Ab hS ?_ | refine Ba Aa Ab hS ?_ | refine Bd Aa Ab hS ?_); clear hS; intro b w hS; refine Ac ?_) | ((first | refine Av Aa Ab hS ?_ | refine Au Aa Ab hS ?_ | refine Bb Aa Ab hS ?_); clear hS; intro w hS; refine Ac ?_)) | ((fail_if_success (with_reducible refine Ad ?_)); first | go_step | go_step3 | rw [Exit.noGoto_normal] | rw [Exit.noGoto_ret] | rw [Exit.noGoto_exit]))
          refine s_app (L := [_, _]) (hS.perm (.cons _ (List.perm_append_comm (l₁ := [_, _])))) hR (by omega) (by rfl) (by rfl) (by rfl) (by rfl) ?_
          intro sv2 Lr2 w2 hR2 hS2
          obtain ⟨p2, c2, rfl⟩ := hR2.slice
          refine Ac ?_
          replace hS := hS2.perm (List.perm_append_comm (l₂ := [_, _]))
          simp only [List.cons_append, List.nil_append] at hS
          clear hS2
          repeat' (first | ((with_reducible refine Ad ?_); first | ((first | refine Bn Aa ?_ | refine Bm Aa ?_ | refine Az Aa ?_ | refine Bf Aa Ab hS ?_ (hv := by first | rfl | exact Bl | (rw [Array.getElem?_toList]; first | exact q2 | exact hcut)) | refine Dp Aa (by first | exact ((hS).far hb).1) ?_ (hv := by first | rfl | exact Bl | (rw [Array.getElem?_toList]; first | exact q2 | exact hcut)) | refine Bi Aa Ab hS ?_ (hv := by first | exact Bq _ _ (by (try simp only [Ca, Ce, Bz, List.length_append, List.length_set, zs_len, List.length_take, List.length_drop, List.length_cons, List.length_nil]); first | done | rfl | omega) | (first | exact q2 | exact hcut) | rfl) | refine Dq Aa (by first | exact ((hS).far hb).1) ?_ (hv := by first | exact Bq _ _ (by (try simp only [Ca, Ce, Bz, List.length_append, List.length_set, zs_len, List.length_take, List.length_drop, List.length_cons, List.length_nil]); first | done | rfl | omega) | (first | exact q2 | exact hcut) | rfl) | refine Ag Aa ?_ | refine Af Aa ?_ | refine Bs Aa ?_ | refine Bx Aa ?_ | refine Ao Aa ?_ | refine Bw Aa ?_ | refine Br Aa ?_ | refine Be Aa ?_ | refine Bg Aa ?_ | refine Bv Aa (fun hc => ?_) (fun hc => ?_) | refine Ay Aa ?_ | refine Am Aa ?_ | refine Aw Aa ?_ | refine Ap Aa ?_ | refine Ah Aa ?_ | refine Ax Aa ?_ (hv' := by first | rfl | exact Bl | (rw [Array.getElem?_toList]; first | exact q2 | exact hcut)) | refine Ar Aa ?_ | refine Aj Aa ?_ | refine Ae Aa ?_ | refine Ai Aa ?_ | refine Bp Aa ?_ | refine Bo Aa ?_ | refine Bu Aa ?_ | refine Bc Aa ?_ | refine As Aa ?_ | refine Ak Aa ?_ | refine Aq Aa ?_ | refine Bj Aa ?_ | refine Bk Aa ?_) <;> refine Ac ?_) | ((first | refine Bh Aa Ab hS ?_ | refine Bt Aa Ab hS ?_ | refine Ba Aa Ab hS ?_ | refine Bd Aa Ab hS ?_); clear hS; intro b w hS; refine Ac ?_) | ((first | refine Av Aa Ab hS ?_ | refine Au Aa Ab hS ?_ | refine Bb Aa Ab hS ?_); clear hS; intro w hS; refine Ac ?_)) | ((fail_if_success (with_reducible refine Ad ?_)); first | go_step | go_step3 | rw [Exit.noGoto_normal] | rw [Exit.noGoto_ret] | rw [Exit.noGoto_exit]))
          go_roundw
          case rel => exact ⟨k + 1, _, _, Lr2, by omega, by simp; omega, by push_cast; rfl, rfl, hB, hR2, hS⟩
          case measure => simp [intOf]; omega
    · obtain rfl : k = l.length := by omega
      unfold withI at hI
      rw [List.take_length] at hI
      cases D with
      | true =>
        rw [if_pos rfl, hx] at hI
        obtain ⟨rfl, _⟩ := hI
        cases F
        all_goals
          first | have h5 := of_decide_eq_false hF | have h5 := of_decide_eq_true hF
          repeat' (first | ((with_reducible refine Ad ?_); first | ((first | refine Bn Aa ?_ | refine Bm Aa ?_ | refine Az Aa ?_ | refine Bf Aa Ab hS ?_ | refine Bi Aa Ab hS ?_ | refine Ag Aa ?_ | refine Af Aa ?_ | refine Bs Aa ?_ | refine Bx Aa ?_ | refine Ao Aa ?_ | refine Bw Aa ?_ | refine Br Aa ?_ | refine Be Aa ?_ | refine Bg Aa ?_ | refine Bv Aa (fun hc => ?_) (fun hc => ?_) | refine Ay Aa ?_ | refine Am Aa ?_ | refine Aw Aa ?_ | refine Ap Aa ?_ | refine Ah Aa ?_ | refine Ax Aa ?_ | refine Ar Aa ?_ | refine Aj Aa ?_ | refine Ae Aa ?_ | refine Ai Aa ?_ | refine Bp Aa ?_ | refine Bo Aa ?_ | refine Bu Aa ?_ | refine Bc Aa ?_ | refine As Aa ?_ | refine Ak Aa ?_ | refine Aq Aa ?_ | refine Bj Aa ?_ | refine Bk Aa ?_) <;> refine Ac ?_) | ((first | refine Bh Aa Ab hS ?_ | refine Bt Aa Ab hS ?_ | refine Ba Aa Ab hS ?_ | refine Bd Aa Ab hS ?_); clear hS; intro b w hS; refine Ac ?_) | ((first | refine Av Aa Ab hS ?_ | refine Au Aa Ab hS ?_ | refine Bb Aa Ab hS ?_); clear hS; intro w hS; refine Ac ?_)) | ((fail_if_success (with_reducible refine Ad ?_)); first | go_step | go_step3 | rw [Exit.noGoto_normal] | rw [Exit.noGoto_ret] | rw [Exit.noGoto_exit]))
          exact De (n := 5) Try.results38 (by kernel_rfl) (.inl rfl) _ _ _ _ rfl rfl (hS.blk 0 rfl) (by rfl) ⟨_, rfl, hR.own (L := [_, _]) (hS.perm (List.perm_append_comm (l₁ := [_, _]))), hS.below⟩
      | false =>
        rw [if_neg (by decide)] at hI
        obtain ⟨rfl, hlow⟩ := hI
        rw [ins_low hlow] at hx
        subst hx
        repeat' (first | ((with_reducible refine Ad ?_); first | ((first | refine Bn Aa ?_ | refine Bm Aa ?_ | refine Az Aa ?_ | refine Bf Aa Ab hS ?_ | refine Bi Aa Ab hS ?_ | refine Ag Aa ?_ | refine Af Aa ?_ | refine Bs Aa ?_ | refine Bx Aa ?_ | refine Ao Aa ?_ | refine Bw Aa ?_ | refine Br Aa ?_ | refine Be Aa ?_ | refine Bg Aa ?_ | refine Bv Aa (fun hc => ?_) (fun hc => ?_) | refine Ay Aa ?_ | refine Am Aa ?_ | refine Aw Aa ?_ | refine Ap Aa ?_ | refine Ah Aa ?_ | refine Ax Aa ?_ | refine Ar Aa ?_ | refine Aj Aa ?_ | refine Ae Aa ?_ | refine Ai Aa ?_ | refine Bp Aa ?_ | refine Bo Aa ?_ | refine Bu Aa ?_ | refine Bc Aa ?_ | refine As Aa ?_ | refine Ak Aa ?_ | refine Aq Aa ?_ | refine Bj Aa ?_ | refine Bk Aa ?_) <;> refine Ac ?_) | ((first | refine Bh Aa Ab hS ?_ | refine Bt Aa Ab hS ?_ | refine Ba Aa Ab hS ?_ | refine Bd Aa Ab hS ?_); clear hS; intro b w hS; refine Ac ?_) | ((first | refine Av Aa Ab hS ?_ | refine Au Aa Ab hS ?_ | refine Bb Aa Ab hS ?_); clear hS; intro w hS; refine Ac ?_)) | ((fail_if_success (with_reducible refine Ad ?_)); first | go_step | go_step3 | rw [Exit.noGoto_normal] | rw [Exit.noGoto_ret] | rw [Exit.noGoto_exit]))
        refine s_app (L := [_, _]) (hS.perm (.cons _ (List.perm_append_comm (l₁ := [_, _])))) hR (by omega) (by rfl) (by rfl) (by rfl) (by rfl) ?_
        intro sv2 Lr2 w2 hR2 hS2
        obtain ⟨p2, c2, rfl⟩ := hR2.slice
        refine Ac ?_
        replace hS := hS2.perm (List.perm_append_comm (l₂ := [_, _]))
        simp only [List.cons_append, List.nil_append] at hS
        clear hS2
        cases F
        all_goals
          first | have h5 := of_decide_eq_false hF | have h5 := of_decide_eq_true hF
          repeat' (first | ((with_reducible refine Ad ?_); first | ((first | refine Bn Aa ?_ | refine Bm Aa ?_ | refine Az Aa ?_ | refine Bf Aa Ab hS ?_ | refine Bi Aa Ab hS ?_ | refine Ag Aa ?_ | refine Af Aa ?_ | refine Bs Aa ?_ | refine Bx Aa ?_ | refine Ao Aa ?_ | refine Bw Aa ?_ | refine Br Aa ?_ | refine Be Aa ?_ | refine Bg Aa ?_ | refine Bv Aa (fun hc => ?_) (fun hc => ?_) | refine Ay Aa ?_ | refine Am Aa ?_ | refine Aw Aa ?_ | refine Ap Aa ?_ | refine Ah Aa ?_ | refine Ax Aa ?_ | refine Ar Aa ?_ | refine Aj Aa ?_ | refine Ae Aa ?_ | refine Ai Aa ?_ | refine Bp Aa ?_ | refine Bo Aa ?_ | refine Bu Aa ?_ | refine Bc Aa ?_ | refine As Aa ?_ | refine Ak Aa ?_ | refine Aq Aa ?_ | refine Bj Aa ?_ | refine Bk Aa ?_) <;> refine Ac ?_) | ((first | refine Bh Aa Ab hS ?_ | refine Bt Aa Ab hS ?_ | refine Ba Aa Ab hS ?_ | refine Bd Aa Ab hS ?_); clear hS; intro b w hS; refine Ac ?_) | ((first | refine Av Aa Ab hS ?_ | refine Au Aa Ab hS ?_ | refine Bb Aa Ab hS ?_); clear hS; intro w hS; refine Ac ?_)) | ((fail_if_success (with_reducible refine Ad ?_)); first | go_step | go_step3 | rw [Exit.noGoto_normal] | rw [Exit.noGoto_ret] | rw [Exit.noGoto_exit]))
          exact De (n := 5) Try.results38 (by kernel_rfl) (.inl rfl) _ _ _ _ rfl rfl (hS.blk 0 rfl) (by rfl) ⟨_, rfl, hR2.own (L := [_, _]) (hS.perm (List.perm_append_comm (l₁ := [_, _]))), hS.below⟩
end Go.Proofs.Ytkfggilildiflac

namespace Go.Proofs.Ytkfggilildiflac
open Go.ChangeShapes Go.WideShapes Go.ChangeAt Go.RowKit
attribute [local irreducible] wpList wpListIn Oper.quietAt wpM
def ints (l : List Int) : List Value := l.map fun x => .int .i64 x
def IntsAt (w : World) (v : Value) (l : List Int) : Prop :=
  ∃ p c, v = .slice p l.length c ∧ l.length ≤ c ∧ (p = none → c = 0) ∧ (l ≠ [] → ∃ b o cs t fr, p = some ⟨b, o, none⟩ ∧ blk w b = some (.cells cs t fr) ∧ ∀ i x, (ints l)[i]? = some x → cs.toList[o + i]? = some x)
theorem IntsAt.slice {w : World} {v : Value} {l : List Int} (h : IntsAt w v l) : ∃ p c, v = .slice p l.length c ∧ l.length ≤ c := by
  obtain ⟨p, c, h1, h2, _⟩ := h; exact ⟨p, c, h1, h2⟩
theorem IntsAt.below {w w' : World} {v : Value} {l : List Int} (h : IntsAt w v l) (hb : Below w.heap.size w w') : IntsAt w' v l := by
  obtain ⟨p, c, h1, h2, h3, h4⟩ := h
  refine ⟨p, c, h1, h2, h3, fun hn => ?_⟩
  obtain ⟨b, o, cs, t, fr, e1, e2, e3⟩ := h4 hn
  exact ⟨b, o, cs, t, fr, e1, (hb.block b (blk_lt e2)).trans e2, e3⟩
theorem IntsAt.open_ {w : World} {p : Option Addr} {n c : Nat} {l : List Int} (h : IntsAt w (.slice p n c) l) (hn : 0 < l.length) :
    ∃ b o cs t fr, p = some ⟨b, o, none⟩ ∧ blk w b = some (.cells cs t fr) ∧ ∀ i x, (ints l)[i]? = some x → cs.toList[o + i]? = some x := by
  obtain ⟨p', c', h1, h2, h3, h4⟩ := h
  simp only [Value.slice.injEq] at h1
  obtain ⟨rfl, rfl, rfl⟩ := h1
  exact h4 (by rintro rfl; simp at hn)
theorem int_cell {cs : Array Value} {o : Nat} {l : List Int} (h : ∀ i x, (ints l)[i]? = some x → cs.toList[o + i]? = some x) {i : Nat} (hi : i < l.length) : cs[o + i]? = some (.int .i64 (l.getD i 0)) := by
  rw [← Array.getElem?_toList]
  refine h _ _ ?_
  unfold ints
  rw [List.getElem?_map, List.getElem?_eq_getElem hi, List.getD_eq_getElem?_getD, List.getElem?_eq_getElem hi]; rfl
theorem csz_int {cs : Array Value} {o : Nat} {l : List Int} (h : ∀ i x, (ints l)[i]? = some x → cs.toList[o + i]? = some x) {i : Nat} (hi : i < l.length) : o + i + 1 ≤ csz cs := by
  have h1 := int_cell h hi
  have := (Array.getElem?_eq_some_iff.1 h1).1
  unfold csz
  omega
theorem any_take {gone : List Int} {y : Int} {j : Nat} (hj : j < gone.length) : (gone.take (j + 1)).any (· == y) = ((gone.take j).any (· == y) || (gone.getD j 0 == y)) := by
  rw [List.take_succ_eq_append_getElem hj, List.any_append, List.getD_eq_getElem?_getD, List.getElem?_eq_getElem hj]
  simp
theorem filt_step {l : List Rg} {q : Rg → Bool} {k : Nat} (hk : k < l.length) {y : Rg} (hy : l.getD k (0, 0) = y) : (l.take (k + 1)).filter q = if q y then (l.take k).filter q ++ [y] else (l.take k).filter q := by
  rw [take_reg hk, hy, List.filter_append, List.filter_cons, List.filter_nil]
  split
  · next h => rfl
  · rw [List.append_nil]
set_option maxRecDepth 100000 in
set_option maxHeartbeats 8000000 in
theorem withoutRef_any (l : List Rg) (h t g : Int) (s : Bool) (v : Value) (gone : List Int) (gv : Value) (w0 : World) (hv : RegsAt w0 v l) (hgo : IntsAt w0 gv gone) (hm : l.length ≤ 100) (hmg : gone.length ≤ 100) (x : Rv) (hx : endR ⟨l, h, t, s, g⟩ (fun y => gone.any (· == y.1)) = x) :
    Calls Try.prog 37 #[.agg #[v, .int .i64 h, .int .i64 t, .bool s, .int .i64 g], gv] w0 fun e w' => ∃ sv, e = .returned (.agg #[sv, .int .i64 x.holder, .int .i64 x.typ, .bool s, .int .i64 g]) ∧ OwnRegs w0.heap.size w' sv x.regs ∧ Below w0.heap.size w0 w' := by
  obtain ⟨p, c, rfl, hc⟩ := hv.slice
  obtain ⟨pg, cg, rfl, hcg⟩ := hgo.slice
  have hS := St.start w0
  obtain ⟨q, hq⟩ : ∃ q : Rg → Bool, (fun y : Rg => !(gone.any (· == y.1))) = q := ⟨_, rfl⟩
  go_enter Try.func37, Try.ntmps37
  repeat' (first | ((with_reducible refine Ad ?_); first | ((first | refine Bn Aa ?_ | refine Bm Aa ?_ | refine Az Aa ?_ | refine Bf Aa Ab hS ?_ | refine Bi Aa Ab hS ?_ | refine Ag Aa ?_ | refine Af Aa ?_ | refine Bs Aa ?_ | refine Bx Aa ?_ | refine Ao Aa ?_ | refine Bw Aa ?_ | refine Br Aa ?_ | refine Be Aa ?_ | refine Bg Aa ?_ | refine Bv Aa (fun hc => ?_) (fun hc => ?_) | refine Ay Aa ?_ | refine Am Aa ?_ | refine Aw Aa ?_ | refine Ap Aa ?_ | refine Ah Aa ?_ | refine Ax Aa ?_ | refine Ar Aa ?_ | refine Aj Aa ?_ | refine Ae Aa ?_ | refine Ai Aa ?_ | refine Bp Aa ?_ | refine Bo Aa ?_ | refine Bu Aa ?_ | refine Bc Aa ?_ | refine As Aa ?_ | refine Ak Aa ?_ | refine Aq Aa ?_ | refine Bj Aa ?_ | refine Bk Aa ?_) <;> refine Ac ?_) | ((first | refine Bh Aa Ab hS ?_ | refine Bt Aa Ab hS ?_ | refine Ba Aa Ab hS ?_ | refine Bd Aa Ab hS ?_); clear hS; intro b w hS; refine Ac ?_) | ((first | refine Av Aa Ab hS ?_ | refine Au Aa Ab hS ?_ | refine Bb Aa Ab hS ?_); clear hS; intro w hS; refine Ac ?_)) | ((fail_if_success (with_reducible refine Ad ?_)); first | go_step | go_step3 | rw [Exit.noGoto_normal] | rw [Exit.noGoto_ret] | rw [Exit.noGoto_exit]))
  rename_i b2 z1 z2 z3
  go_loopw [5, 6] (fun u5 u6 wr => ∃ (k : Nat) (Lr : List Blk), k ≤ l.length ∧ u6 = .int .i64 (k : Int) ∧ RgL ((l.take k).filter q) u5 Lr ∧ St w0 wr ((b, #[.slice none 0 0, .int .i64 0, .int .i64 0, .bool false, .int .i64 0], 24) :: (b2, #[.slice p l.length c, .int .i64 h, .int .i64 t, .bool s, .int .i64 g], 24) :: Lr)) (fun _ u6 _ => l.length - (intOf u6).toNat)
  case atStart => exact ⟨0, [], by omega, rfl, .inl ⟨rfl, rfl, rfl⟩, hS⟩
  case round =>
    obtain ⟨k, Lr, hk, rfl, hR, hS⟩ := hrel
    have hfl : ((l.take k).filter q).length ≤ 100 := Nat.le_trans (List.length_filter_le ..) (by rw [List.length_take]; omega)
    obtain ⟨p1, c1, rfl⟩ := hR.slice
    by_cases hlt : k < l.length
    · obtain ⟨rb, o, cs, ty, fr, rfl, hb, hcell⟩ := hv.open_ (by omega)
      have q1 := csz_reg hcell hlt
      have q2 := who_cell hcell hlt
      have hcut := cut_reg hcell hlt
      obtain ⟨⟨y1, y2⟩, hy⟩ : ∃ y, l.getD k (0, 0) = y := ⟨_, rfl⟩
      have hst := filt_step (q := q) hlt hy
      have hqy : q (y1, y2) = !(gone.any (· == y1)) := by rw [← hq]
      rw [hy] at q2 hcut
      dsimp only at q2 hcut
      repeat' (first | ((with_reducible refine Ad ?_); first | ((first | refine Bn Aa ?_ | refine Bm Aa ?_ | refine Az Aa ?_ | refine Bf Aa Ab hS ?_ (hv := by first | rfl | exact Bl | (rw [Array.getElem?_toList]; first | exact q2 | exact hcut)) | refine Dp Aa (by first | exact ((hS).far hb).1) ?_ (hv := by first | rfl | exact Bl | (rw [Array.getElem?_toList]; first | exact q2 | exact hcut)) | refine Bi Aa Ab hS ?_ (hv := by first | exact Bq _ _ (by (try simp only [Ca, Ce, Bz, List.length_append, List.length_set, zs_len, List.length_take, List.length_drop, List.length_cons, List.length_nil]); first | done | rfl | omega) | (first | exact q2 | exact hcut) | rfl) | refine Dq Aa (by first | exact ((hS).far hb).1) ?_ (hv := by first | exact Bq _ _ (by (try simp only [Ca, Ce, Bz, List.length_append, List.length_set, zs_len, List.length_take, List.length_drop, List.length_cons, List.length_nil]); first | done | rfl | omega) | (first | exact q2 | exact hcut) | rfl) | refine Ag Aa ?_ | refine Af Aa ?_ | refine Bs Aa ?_ | refine Bx Aa ?_ | refine Ao Aa ?_ | refine Bw Aa ?_ | refine Br Aa ?_ | refine Be Aa ?_ | refine Bg Aa ?_ | refine Bv Aa (fun hc => ?_) (fun hc => ?_) | refine Ay Aa ?_ | refine Am Aa ?_ | refine Aw Aa ?_ | refine Ap Aa ?_ | refine Ah Aa ?_ | refine Ax Aa ?_ (hv' := by first | rfl | exact Bl | (rw [Array.getElem?_toList]; first | exact q2 | exact hcut)) | refine Ar Aa ?_ | refine Aj Aa ?_ | refine Ae Aa ?_ | refine Ai Aa ?_ | refine Bp Aa ?_ | refine Bo Aa ?_ | refine Bu Aa ?_ | refine Bc Aa ?_ | refine As Aa ?_ | refine Ak Aa ?_ | refine Aq Aa ?_ | refine Bj Aa ?_ | refine Bk Aa ?_) <;> refine Ac ?_) | ((first | refine Bh Aa Ab hS ?_ | refine Bt Aa Ab hS ?_ | refine Ba Aa Ab hS ?_ | refine Bd Aa Ab hS ?_); clear hS; intro b w hS; refine Ac ?_) | ((first | refine Av Aa Ab hS ?_ | refine Au Aa Ab hS ?_ | refine Bb Aa Ab hS ?_); clear hS; intro w hS; refine Ac ?_)) | ((fail_if_success (with_reducible refine Ad ?_)); first | go_step | go_step3 | rw [Exit.noGoto_normal] | rw [Exit.noGoto_ret] | rw [Exit.noGoto_exit]))
      go_loopw [7, 8] (fun u7 u8 wr => ∃ (j : Nat), j ≤ gone.length ∧ u8 = .int .i64 (j : Int) ∧ u7 = .bool ((gone.take j).any (· == y1)) ∧ St w0 wr ((b, #[.slice none 0 0, .int .i64 0, .int .i64 0, .bool false, .int .i64 0], 24) :: (b2, #[.slice (some ⟨rb, o, none⟩) l.length c, .int .i64 h, .int .i64 t, .bool s, .int .i64 g], 24) :: Lr)) (fun _ u8 _ => gone.length - (intOf u8).toNat)
      case atStart => exact ⟨0, by omega, rfl, rfl, hS⟩
      case round =>
        obtain ⟨j, hj, rfl, rfl, hS⟩ := hrel
        by_cases hltj : j < gone.length
        · obtain ⟨rg, og, cg2, tg, fg, rfl, hbg, hcg2⟩ := hgo.open_ (by omega)
          have q3 := int_cell hcg2 hltj
          have q4 := csz_int hcg2 hltj
          have hat := any_take (y := y1) hltj
          obtain ⟨G, hG⟩ : ∃ G, gone.getD j 0 = G := ⟨_, rfl⟩
          obtain ⟨A, hA⟩ : ∃ A, (gone.take j).any (· == y1) = A := ⟨_, rfl⟩
          rw [hG] at q3 hat
          rw [hA] at hat ⊢
          repeat' (first | ((with_reducible refine Ad ?_); first | ((first | refine Bn Aa ?_ | refine Bm Aa ?_ | refine Az Aa ?_ | refine Bf Aa Ab hS ?_ (hv := by first | rfl | exact Bl | (rw [Array.getElem?_toList]; first | exact q2 | exact hcut | exact q3)) | refine Dp Aa (by first | exact ((hS).far hb).1) ?_ (hv := by first | rfl | exact Bl | (rw [Array.getElem?_toList]; first | exact q2 | exact hcut | exact q3)) | refine Dp Aa (by first | exact ((hS).far hbg).1) ?_ (hv := by first | rfl | exact Bl | (rw [Array.getElem?_toList]; first | exact q2 | exact hcut | exact q3)) | refine Bi Aa Ab hS ?_ (hv := by first | exact Bq _ _ (by (try simp only [Ca, Ce, Bz, List.length_append, List.length_set, zs_len, List.length_take, List.length_drop, List.length_cons, List.length_nil]); first | done | rfl | omega) | (first | exact q2 | exact hcut | exact q3) | rfl) | refine Dq Aa (by first | exact ((hS).far hb).1) ?_ (hv := by first | exact Bq _ _ (by (try simp only [Ca, Ce, Bz, List.length_append, List.length_set, zs_len, List.length_take, List.length_drop, List.length_cons, List.length_nil]); first | done | rfl | omega) | (first | exact q2 | exact hcut | exact q3) | rfl) | refine Dq Aa (by first | exact ((hS).far hbg).1) ?_ (hv := by first | exact Bq _ _ (by (try simp only [Ca, Ce, Bz, List.length_append, List.length_set, zs_len, List.length_take, List.length_drop, List.length_cons, List.length_nil]); first | done | rfl | omega) | (first | exact q2 | exact hcut | exact q3) | rfl) | refine Ag Aa ?_ | refine Af Aa ?_ | refine Bs Aa ?_ | refine Bx Aa ?_ | refine Ao Aa ?_ | refine Bw Aa ?_ | refine Br Aa ?_ | refine Be Aa ?_ | refine Bg Aa ?_ | refine Bv Aa (fun hc => ?_) (fun hc => ?_) | refine Ay Aa ?_ | refine Am Aa ?_ | refine Aw Aa ?_ | refine Ap Aa ?_ | refine Ah Aa ?_ | refine Ax Aa ?_ (hv' := by first | rfl | exact Bl | (rw [Array.getElem?_toList]; first | exact q2 | exact hcut | exact q3)) | refine Ar Aa ?_ | refine Aj Aa ?_ | refine Ae Aa ?_ | refine Ai Aa ?_ | refine Bp Aa ?_ | refine Bo Aa ?_ | refine Bu Aa ?_ | refine Bc Aa ?_ | refine As Aa ?_ | refine Ak Aa ?_ | refine Aq Aa ?_ | refine Bj Aa ?_ | refine Bk Aa ?_) <;> refine Ac ?_) | ((first | refine Bh Aa Ab hS ?_ | refine Bt Aa Ab hS ?_ | refine Ba Aa Ab hS ?_ | refine Bd Aa Ab hS ?_); clear hS; intro b w hS; refine Ac ?_) | ((first | refine Av Aa Ab hS ?_ | refine Au Aa Ab hS ?_ | refine Bb Aa Ab hS ?_); clear hS; intro w hS; refine Ac ?_)) | ((fail_if_success (with_reducible refine Ad ?_)); first | go_step | go_step3 | rw [Exit.noGoto_normal] | rw [Exit.noGoto_ret] | rw [Exit.noGoto_exit]))
          cases A with
          | true =>
            refine Cd 14 (by kernel_rfl) (by kernel_rfl) ?_
            dsimp only [List.take, List.drop]
            iterate 14 (first | (refine Dd (fun _ => rfl) ?_; simp only [Act.put, List.setIfInBounds_toArray, List.set_cons_zero, List.set_cons_succ]) | (refine Cr rfl (fun _ => rfl) _ (fun w => r_alloc (a := ⟨#[], []⟩) rfl (by infer_instance)) ?_; simp only [Act.put, List.setIfInBounds_toArray, List.set_cons_zero, List.set_cons_succ]) | (refine Cm rfl (fun _ => rfl) (fun K hK => ?_); apply Exists.intro; apply Exists.intro; apply Exists.intro; apply Exists.intro; refine ⟨fun pB w' hw' hF => ?_, hK _ _ ?_⟩; (focus (exact Cg (by rfl) (by rfl) (by infer_instance) (by rfl) (by repeat (first | exact (fun _ h => absurd h List.not_mem_nil) | refine List.forall_mem_cons.2 ⟨by first | rfl | (simp only [Value.cells]; first | rfl | omega), ?_⟩)) (by (try conv => lhs; simp only [List.flatMap_cons, List.flatMap_nil, Value.cells, List.append_nil, List.cons_append, List.nil_append]); first | done | rfl) (by decide) (by decide))); clear hK K; simp only [Act.put, List.setIfInBounds_toArray, List.set_cons_zero, List.set_cons_succ]) | (refine Cx (fun _ => rfl) (fun K hK => ?_); apply Exists.intro; refine ⟨fun pB w' hw' hF => ?_, hK _ _ ?_⟩; (focus (have hZ := (Ab).call hS hw'; first | exact Dv | exact Cz | exact Dk Ab hZ (hv := by first | rfl | exact Bl | (rw [Array.getElem?_toList]; first | exact q2 | exact hcut | exact q3)) | exact Dr (by first | exact ((hZ).far hb).1) (hv := by first | rfl | exact Bl | (rw [Array.getElem?_toList]; first | exact q2 | exact hcut | exact q3)) | exact Dr (by first | exact ((hZ).far hbg).1) (hv := by first | rfl | exact Bl | (rw [Array.getElem?_toList]; first | exact q2 | exact hcut | exact q3)) | exact Dl Ab hZ (hv := by first | exact Bq _ _ (by (try simp only [Ca, Ce, Bz, List.length_append, List.length_set, zs_len, List.length_take, List.length_drop, List.length_cons, List.length_nil]); first | done | rfl | omega) | (first | exact q2 | exact hcut | exact q3) | rfl) | exact Dt (by first | exact ((hZ).far hb).1) (hv := by first | exact Bq _ _ (by (try simp only [Ca, Ce, Bz, List.length_append, List.length_set, zs_len, List.length_take, List.length_drop, List.length_cons, List.length_nil]); first | done | rfl | omega) | (first | exact q2 | exact hcut | exact q3) | rfl) | exact Dt (by first | exact ((hZ).far hbg).1) (hv := by first | exact Bq _ _ (by (try simp only [Ca, Ce, Bz, List.length_append, List.length_set, zs_len, List.length_take, List.length_drop, List.length_cons, List.length_nil]); first | done | rfl | omega) | (first | exact q2 | exact hcut | exact q3) | rfl) | exact Ci | exact Cf | exact Dz | exact Dx | exact Co | exact Dy | exact Dw | exact Dn | exact Dm | exact Dc | exact Cp | exact Cw | exact Cq | exact Ch | exact Db (hv' := by first | rfl | exact Bl | (rw [Array.getElem?_toList]; first | exact q2 | exact hcut | exact q3)) | exact Cy | exact Cj | exact Cc | exact Cl | exact Du | exact Ds | exact Ea | exact Dj | exact Da | exact Ck | exact Dg | exact Df | exact Cn)); clear hK K; simp only [Act.put, List.setIfInBounds_toArray, List.set_cons_zero, List.set_cons_succ]))
            refine Di ?_
            intro pB w hcq hfq hnq
            replace hS := (Ab).news hS hcq _ (by first | decide | simp) hfq hnq
            first | simp only [List.map_nil, List.nil_append] at hS | simp only [List.map_cons, List.map_nil, List.cons_append, List.nil_append] at hS
            clear hcq hfq hnq
            try dsimp only
            repeat' (first | ((with_reducible refine Ad ?_); first | ((first | refine Bn Aa ?_ | refine Bm Aa ?_ | refine Az Aa ?_ | refine Bf Aa Ab hS ?_ (hv := by first | rfl | exact Bl | (rw [Array.getElem?_toList]; exact q2)) | refine Dp Aa (by first | exact ((hS).far hb).1) ?_ (hv := by first | rfl | exact Bl | (rw [Array.getElem?_toList]; exact q2)) | refine Bi Aa Ab hS ?_ (hv := by first | exact Bq _ _ (by (try simp only [Ca, Ce, Bz, List.length_append, List.length_set, zs_len, List.length_take, List.length_drop, List.length_cons, List.length_nil]); first | done | rfl | omega) | (exact q2) | rfl) | refine Dq Aa (by first | exact ((hS).far hb).1) ?_ (hv := by first | exact Bq _ _ (by (try simp only [Ca, Ce, Bz, List.length_append, List.length_set, zs_len, List.length_take, List.length_drop, List.length_cons, List.length_nil]); first | done | rfl | omega) | (exact q2) | rfl) | refine Ag Aa ?_ | refine Af Aa ?_ | refine Bs Aa ?_ | refine Bx Aa ?_ | refine Ao Aa ?_ | refine Bw Aa ?_ | refine Br Aa ?_ | refine Be Aa ?_ | refine Bg Aa ?_ | refine Bv Aa (fun hc => ?_) (fun hc => ?_) | refine Ay Aa ?_ | refine Am Aa ?_ | refine Aw Aa ?_ | refine Ap Aa ?_ | refine Ah Aa ?_ | refine Ax Aa ?_ (hv' := by first | rfl | exact Bl | (rw [Array.getElem?_toList]; exact q2)) | refine Ar Aa ?_ | refine Aj Aa ?_ | refine Ae Aa ?_ | refine Ai Aa ?_ | refine Bp Aa ?_ | refine Bo Aa ?_ | refine Bu Aa ?_ | refine Bc Aa ?_ | refine As Aa ?_ | refine Ak Aa ?_ | refine Aq Aa ?_ | refine Bj Aa ?_ | refine Bk Aa ?_) <;> refine Ac ?_) | ((first | refine Bh Aa Ab hS ?_ | refine Bt Aa Ab hS ?_ | refine Ba Aa Ab hS ?_ | refine Bd Aa Ab hS ?_); clear hS; intro b w hS; refine Ac ?_) | ((first | refine Av Aa Ab hS ?_ | refine Au Aa Ab hS ?_ | refine Bb Aa Ab hS ?_); clear hS; intro w hS; refine Ac ?_)) | ((fail_if_success (with_reducible refine Ad ?_)); first | go_step | go_step3 | rw [Exit.noGoto_normal] | rw [Exit.noGoto_ret] | rw [Exit.noGoto_exit]))
            go_roundw
            case rel => exact ⟨j + 1, by omega, by push_cast; rfl, by rw [hat]; rfl, hS⟩
            case measure => simp [intOf]; omega
          | false =>
            by_cases hGy : G = y1
            · skip
              refine Cd 14 (by kernel_rfl) (by kernel_rfl) ?_
              dsimp only [List.take, List.drop]
              iterate 14 (first | (refine Dd (fun _ => rfl) ?_; simp only [Act.put, List.setIfInBounds_toArray, List.set_cons_zero, List.set_cons_succ]) | (refine Cr rfl (fun _ => rfl) _ (fun w => r_alloc (a := ⟨#[], []⟩) rfl (by infer_instance)) ?_; simp only [Act.put, List.setIfInBounds_toArray, List.set_cons_zero, List.set_cons_succ]) | (refine Cm rfl (fun _ => rfl) (fun K hK => ?_); apply Exists.intro; apply Exists.intro; apply Exists.intro; apply Exists.intro; refine ⟨fun pB w' hw' hF => ?_, hK _ _ ?_⟩; (focus (exact Cg (by rfl) (by rfl) (by infer_instance) (by rfl) (by repeat (first | exact (fun _ h => absurd h List.not_mem_nil) | refine List.forall_mem_cons.2 ⟨by first | rfl | (simp only [Value.cells]; first | rfl | omega), ?_⟩)) (by (try conv => lhs; simp only [List.flatMap_cons, List.flatMap_nil, Value.cells, List.append_nil, List.cons_append, List.nil_append]); first | done | rfl) (by decide) (by decide))); clear hK K; simp only [Act.put, List.setIfInBounds_toArray, List.set_cons_zero, List.set_cons_succ]) | (refine Cx (fun _ => rfl) (fun K hK => ?_); apply Exists.intro; refine ⟨fun pB w' hw' hF => ?_, hK _ _ ?_⟩; (focus (have hZ := (Ab).call hS hw'; first | exact Dv | exact Cz | exact Dk Ab hZ (hv := by first | rfl | exact Bl | (rw [Array.getElem?_toList]; first | exact q2 | exact hcut | exact q3)) | exact Dr (by first | exact ((hZ).far hb).1) (hv := by first | rfl | exact Bl | (rw [Array.getElem?_toList]; first | exact q2 | exact hcut | exact q3)) | exact Dr (by first | exact ((hZ).far hbg).1) (hv := by first | rfl | exact Bl | (rw [Array.getElem?_toList]; first | exact q2 | exact hcut | exact q3)) | exact Dl Ab hZ (hv := by first | exact Bq _ _ (by (try simp only [Ca, Ce, Bz, List.length_append, List.length_set, zs_len, List.length_take, List.length_drop, List.length_cons, List.length_nil]); first | done | rfl | omega) | (first | exact q2 | exact hcut | exact q3) | rfl) | exact Dt (by first | exact ((hZ).far hb).1) (hv := by first | exact Bq _ _ (by (try simp only [Ca, Ce, Bz, List.length_append, List.length_set, zs_len, List.length_take, List.length_drop, List.length_cons, List.length_nil]); first | done | rfl | omega) | (first | exact q2 | exact hcut | exact q3) | rfl) | exact Dt (by first | exact ((hZ).far hbg).1) (hv := by first | exact Bq _ _ (by (try simp only [Ca, Ce, Bz, List.length_append, List.length_set, zs_len, List.length_take, List.length_drop, List.length_cons, List.length_nil]); first | done | rfl | omega) | (first | exact q2 | exact hcut | exact q3) | rfl) | exact Ci | exact Cf | exact Dz | exact Dx | exact Co | exact Dy | exact Dw | exact Dn | exact Dm | exact Dc | exact Cp | exact Cw | exact Cq | exact Ch | exact Db (hv' := by first | rfl | exact Bl | (rw [Array.getElem?_toList]; first | exact q2 | exact hcut | exact q3)) | exact Cy | exact Cj | exact Cc | exact Cl | exact Du | exact Ds | exact Ea | exact Dj | exact Da | exact Ck | exact Dg | exact Df | exact Cn)); clear hK K; simp only [Act.put, List.setIfInBounds_toArray, List.set_cons_zero, List.set_cons_succ]))
              refine Di ?_
              intro pB w hcq hfq hnq
              replace hS := (Ab).news hS hcq _ (by first | decide | simp) hfq hnq
              first | simp only [List.map_nil, List.nil_append] at hS | simp only [List.map_cons, List.map_nil, List.cons_append, List.nil_append] at hS
              clear hcq hfq hnq
              try dsimp only
              repeat' (first | ((with_reducible refine Ad ?_); first | ((first | refine Bn Aa ?_ | refine Bm Aa ?_ | refine Az Aa ?_ | refine Bf Aa Ab hS ?_ (hv := by first | rfl | exact Bl | (rw [Array.getElem?_toList]; exact q2)) | refine Dp Aa (by first | exact ((hS).far hb).1) ?_ (hv := by first | rfl | exact Bl | (rw [Array.getElem?_toList]; exact q2)) | refine Bi Aa Ab hS ?_ (hv := by first | exact Bq _ _ (by (try simp only [Ca, Ce, Bz, List.length_append, List.length_set, zs_len, List.length_take, List.length_drop, List.length_cons, List.length_nil]); first | done | rfl | omega) | (exact q2) | rfl) | refine Dq Aa (by first | exact ((hS).far hb).1) ?_ (hv := by first | exact Bq _ _ (by (try simp only [Ca, Ce, Bz, List.length_append, List.length_set, zs_len, List.length_take, List.length_drop, List.length_cons, List.length_nil]); first | done | rfl | omega) | (exact q2) | rfl) | refine Ag Aa ?_ | refine Af Aa ?_ | refine Bs Aa ?_ | refine Bx Aa ?_ | refine Ao Aa ?_ | refine Bw Aa ?_ | refine Br Aa ?_ | refine Be Aa ?_ | refine Bg Aa ?_ | refine Bv Aa (fun hc => ?_) (fun hc => ?_) | refine Ay Aa ?_ | refine Am Aa ?_ | refine Aw Aa ?_ | refine Ap Aa ?_ | refine Ah Aa ?_ | refine Ax Aa ?_ (hv' := by first | rfl | exact Bl | (rw [Array.getElem?_toList]; exact q2)) | refine Ar Aa ?_ | refine Aj Aa ?_ | refine Ae Aa ?_ | refine Ai Aa ?_ | refine Bp Aa ?_ | refine Bo Aa ?_ | refine Bu Aa ?_ | refine Bc Aa ?_ | refine As Aa ?_ | refine Ak Aa ?_ | refine Aq Aa ?_ | refine Bj Aa ?_ | refine Bk Aa ?_) <;> refine Ac ?_) | ((first | refine Bh Aa Ab hS ?_ | refine Bt Aa Ab hS ?_ | refine Ba Aa Ab hS ?_ | refine Bd Aa Ab hS ?_); clear hS; intro b w hS; refine Ac ?_) | ((first | refine Av Aa Ab hS ?_ | refine Au Aa Ab hS ?_ | refine Bb Aa Ab hS ?_); clear hS; intro w hS; refine Ac ?_)) | ((fail_if_success (with_reducible refine Ad ?_)); first | go_step | go_step3 | rw [Exit.noGoto_normal] | rw [Exit.noGoto_ret] | rw [Exit.noGoto_exit]))
              go_roundw
              case rel => exact ⟨j + 1, by omega, by push_cast; rfl, by rw [hat, hGy]; simp, hS⟩
              case measure => simp [intOf]; omega
            · skip
              refine Cd 14 (by kernel_rfl) (by kernel_rfl) ?_
              dsimp only [List.take, List.drop]
              iterate 14 (first | (refine Dd (fun _ => rfl) ?_; simp only [Act.put, List.setIfInBounds_toArray, List.set_cons_zero, List.set_cons_succ]) | (refine Cr rfl (fun _ => rfl) _ (fun w => r_alloc (a := ⟨#[], []⟩) rfl (by infer_instance)) ?_; simp only [Act.put, List.setIfInBounds_toArray, List.set_cons_zero, List.set_cons_succ]) | (refine Cm rfl (fun _ => rfl) (fun K hK => ?_); apply Exists.intro; apply Exists.intro; apply Exists.intro; apply Exists.intro; refine ⟨fun pB w' hw' hF => ?_, hK _ _ ?_⟩; (focus (exact Cg (by rfl) (by rfl) (by infer_instance) (by rfl) (by repeat (first | exact (fun _ h => absurd h List.not_mem_nil) | refine List.forall_mem_cons.2 ⟨by first | rfl | (simp only [Value.cells]; first | rfl | omega), ?_⟩)) (by (try conv => lhs; simp only [List.flatMap_cons, List.flatMap_nil, Value.cells, List.append_nil, List.cons_append, List.nil_append]); first | done | rfl) (by decide) (by decide))); clear hK K; simp only [Act.put, List.setIfInBounds_toArray, List.set_cons_zero, List.set_cons_succ]) | (refine Cx (fun _ => rfl) (fun K hK => ?_); apply Exists.intro; refine ⟨fun pB w' hw' hF => ?_, hK _ _ ?_⟩; (focus (have hZ := (Ab).call hS hw'; first | exact Dv | exact Cz | exact Dk Ab hZ (hv := by first | rfl | exact Bl | (rw [Array.getElem?_toList]; first | exact q2 | exact hcut | exact q3)) | exact Dr (by first | exact ((hZ).far hb).1) (hv := by first | rfl | exact Bl | (rw [Array.getElem?_toList]; first | exact q2 | exact hcut | exact q3)) | exact Dr (by first | exact ((hZ).far hbg).1) (hv := by first | rfl | exact Bl | (rw [Array.getElem?_toList]; first | exact q2 | exact hcut | exact q3)) | exact Dl Ab hZ (hv := by first | exact Bq _ _ (by (try simp only [Ca, Ce, Bz, List.length_append, List.length_set, zs_len, List.length_take, List.length_drop, List.length_cons, List.length_nil]); first | done | rfl | omega) | (first | exact q2 | exact hcut | exact q3) | rfl) | exact Dt (by first | exact ((hZ).far hb).1) (hv := by first | exact Bq _ _ (by (try simp only [Ca, Ce, Bz, List.length_append, List.length_set, zs_len, List.length_take, List.length_drop, List.length_cons, List.length_nil]); first | done | rfl | omega) | (first | exact q2 | exact hcut | exact q3) | rfl) | exact Dt (by first | exact ((hZ).far hbg).1) (hv := by first | exact Bq _ _ (by (try simp only [Ca, Ce, Bz, List.length_append, List.length_set, zs_len, List.length_take, List.length_drop, List.length_cons, List.length_nil]); first | done | rfl | omega) | (first | exact q2 | exact hcut | exact q3) | rfl) | exact Ci | exact Cf | exact Dz | exact Dx | exact Co | exact Dy | exact Dw | exact Dn | exact Dm | exact Dc | exact Cp | exact Cw | exact Cq | exact Ch | exact Db (hv' := by first | rfl | exact Bl | (rw [Array.getElem?_toList]; first | exact q2 | exact hcut | exact q3)) | exact Cy | exact Cj | exact Cc | exact Cl | exact Du | exact Ds | exact Ea | exact Dj | exact Da | exact Ck | exact Dg | exact Df | exact Cn)); clear hK K; simp only [Act.put, List.setIfInBounds_toArray, List.set_cons_zero, List.set_cons_succ]))
              refine Di ?_
              intro pB w hcq hfq hnq
              replace hS := (Ab).news hS hcq _ (by first | decide | simp) hfq hnq
              first | simp only [List.map_nil, List.nil_append] at hS | simp only [List.map_cons, List.map_nil, List.cons_append, List.nil_append] at hS
              clear hcq hfq hnq
              try dsimp only
              repeat' (first | ((with_reducible refine Ad ?_); first | ((first | refine Bn Aa ?_ | refine Bm Aa ?_ | refine Az Aa ?_ | refine Bf Aa Ab hS ?_ (hv := by first | rfl | exact Bl | (rw [Array.getElem?_toList]; exact q2)) | refine Dp Aa (by first | exact ((hS).far hb).1) ?_ (hv := by first | rfl | exact Bl | (rw [Array.getElem?_toList]; exact q2)) | refine Bi Aa Ab hS ?_ (hv := by first | exact Bq _ _ (by (try simp only [Ca, Ce, Bz, List.length_append, List.length_set, zs_len, List.length_take, List.length_drop, List.length_cons, List.length_nil]); first | done | rfl | omega) | (exact q2) | rfl) | refine Dq Aa (by first | exact ((hS).far hb).1) ?_ (hv := by first | exact Bq _ _ (by (try simp only [Ca, Ce, Bz, List.length_append, List.length_set, zs_len, List.length_take, List.length_drop, List.length_cons, List.length_nil]); first | done | rfl | omega) | (exact q2) | rfl) | refine Ag Aa ?_ | refine Af Aa ?_ | refine Bs Aa ?_ | refine Bx Aa ?_ | refine Ao Aa ?_ | refine Bw Aa ?_ | refine Br Aa ?_ | refine Be Aa ?_ | refine Bg Aa ?_ | refine Bv Aa (fun hc => ?_) (fun hc => ?_) | refine Ay Aa ?_ | refine Am Aa ?_ | refine Aw Aa ?_ | refine Ap Aa ?_ | refine Ah Aa ?_ | refine Ax Aa ?_ (hv' := by first | rfl | exact Bl | (rw [Array.getElem?_toList]; exact q2)) | refine Ar Aa ?_ | refine Aj Aa ?_ | refine Ae Aa ?_ | refine Ai Aa ?_ | refine Bp Aa ?_ | refine Bo Aa ?_ | refine Bu Aa ?_ | refine Bc Aa ?_ | refine As Aa ?_ | refine Ak Aa ?_ | refine Aq Aa ?_ | refine Bj Aa ?_ | refine Bk Aa ?_) <;> refine Ac ?_) | ((first | refine Bh Aa Ab hS ?_ | refine Bt Aa Ab hS ?_ | refine Ba Aa Ab hS ?_ | refine Bd Aa Ab hS ?_); clear hS; intro b w hS; refine Ac ?_) | ((first | refine Av Aa Ab hS ?_ | refine Au Aa Ab hS ?_ | refine Bb Aa Ab hS ?_); clear hS; intro w hS; refine Ac ?_)) | ((fail_if_success (with_reducible refine Ad ?_)); first | go_step | go_step3 | rw [Exit.noGoto_normal] | rw [Exit.noGoto_ret] | rw [Exit.noGoto_exit]))
              go_roundw
              case rel => exact ⟨j + 1, by omega, by push_cast; rfl, by rw [hat, show (G == y1) = false by simpa using hGy]; rfl, hS⟩
              case measure => simp [intOf]; omega
        · obtain rfl : j = gone.length := by omega
          rw [List.take_length]
          obtain ⟨A, hA⟩ : ∃ A, gone.any (· == y1) = A := ⟨_, rfl⟩
          rw [hA] at hqy ⊢
          cases A with
          | true =>
            rw [hqy, if_neg (by decide)] at hst
            repeat' (first | ((with_reducible refine Ad ?_); first | ((first | refine Bn Aa ?_ | refine Bm Aa ?_ | refine Az Aa ?_ | refine Bf Aa Ab hS ?_ (hv := by first | rfl | exact Bl | (rw [Array.getElem?_toList]; first | exact q2 | exact hcut)) | refine Dp Aa (by first | exact ((hS).far hb).1) ?_ (hv := by first | rfl | exact Bl | (rw [Array.getElem?_toList]; first | exact q2 | exact hcut)) | refine Bi Aa Ab hS ?_ (hv := by first | exact Bq _ _ (by (try simp only [Ca, Ce, Bz, List.length_append, List.length_set, zs_len, List.length_take, List.length_drop, List.length_cons, List.length_nil]); first | done | rfl | omega) | (first | exact q2 | exact hcut) | rfl) | refine Dq Aa (by first | exact ((hS).far hb).1) ?_ (hv := by first | exact Bq _ _ (by (try simp only [Ca, Ce, Bz, List.length_append, List.length_set, zs_len, List.length_take, List.length_drop, List.length_cons, List.length_nil]); first | done | rfl | omega) | (first | exact q2 | exact hcut) | rfl) | refine Ag Aa ?_ | refine Af Aa ?_ | refine Bs Aa ?_ | refine Bx Aa ?_ | refine Ao Aa ?_ | refine Bw Aa ?_ | refine Br Aa ?_ | refine Be Aa ?_ | refine Bg Aa ?_ | refine Bv Aa (fun hc => ?_) (fun hc => ?_) | refine Ay Aa ?_ | refine Am Aa ?_ | refine Aw Aa ?_ | refine Ap Aa ?_ | refine Ah Aa ?_ | refine Ax Aa ?_ (hv' := by first | rfl | exact Bl | (rw [Array.getElem?_toList]; first | exact q2 | exact hcut)) | refine Ar Aa ?_ | refine Aj Aa ?_ | refine Ae Aa ?_ | refine Ai Aa ?_ | refine Bp Aa ?_ | refine Bo Aa ?_ | refine Bu Aa ?_ | refine Bc Aa ?_ | refine As Aa ?_ | refine Ak Aa ?_ | refine Aq Aa ?_ | refine Bj Aa ?_ | refine Bk Aa ?_) <;> refine Ac ?_) | ((first | refine Bh Aa Ab hS ?_ | refine Bt Aa Ab hS ?_ | refine Ba Aa Ab hS ?_ | refine Bd Aa Ab hS ?_); clear hS; intro b w hS; refine Ac ?_) | ((first | refine Av Aa Ab hS ?_ | refine Au Aa Ab hS ?_ | refine Bb Aa Ab hS ?_); clear hS; intro w hS; refine Ac ?_)) | ((fail_if_success (with_reducible refine Ad ?_)); first | go_step | go_step3 | rw [Exit.noGoto_normal] | rw [Exit.noGoto_ret] | rw [Exit.noGoto_exit]))
            go_roundw
            case rel => exact ⟨k + 1, Lr, by omega, by push_cast; rfl, by rw [hst]; exact hR, hS⟩
            case measure => simp [intOf]; omega
          | false =>
            rw [hqy, if_pos (by decide)] at hst
            repeat' (first | ((with_reducible refine Ad ?_); first | ((first | refine Bn Aa ?_ | refine Bm Aa ?_ | refine Az Aa ?_ | refine Bf Aa Ab hS ?_ (hv := by first | rfl | exact Bl | (rw [Array.getElem?_toList]; first | exact q2 | exact hcut)) | refine Dp Aa (by first | exact ((hS).far hb).1) ?_ (hv := by first | rfl | exact Bl | (rw [Array.getElem?_toList]; first | exact q2 | exact hcut)) | refine Bi Aa Ab hS ?_ (hv := by first | exact Bq _ _ (by (try simp only [Ca, Ce, Bz, List.length_append, List.length_set, zs_len, List.length_take, List.length_drop, List.length_cons, List.length_nil]); first | done | rfl | omega) | (first | exact q2 | exact hcut) | rfl) | refine Dq Aa (by first | exact ((hS).far hb).1) ?_ (hv := by first | exact Bq _ _ (by (try simp only [Ca, Ce, Bz, List.length_append, List.length_set, zs_len, List.length_take, List.length_drop, List.length_cons, List.length_nil]); first | done | rfl | omega) | (first | exact q2 | exact hcut) | rfl) | refine Ag Aa ?_ | refine Af Aa ?_ | refine Bs Aa ?_ | refine Bx Aa ?_ | refine Ao Aa ?_ | refine Bw Aa ?_ | refine Br Aa ?_ | refine Be Aa ?_ | refine Bg Aa ?_ | refine Bv Aa (fun hc => ?_) (fun hc => ?_) | refine Ay Aa ?_ | refine Am Aa ?_ | refine Aw Aa ?_ | refine Ap Aa ?_ | refine Ah Aa ?_ | refine Ax Aa ?_ (hv' := by first | rfl | exact Bl | (rw [Array.getElem?_toList]; first | exact q2 | exact hcut)) | refine Ar Aa ?_ | refine Aj Aa ?_ | refine Ae Aa ?_ | refine Ai Aa ?_ | refine Bp Aa ?_ | refine Bo Aa ?_ | refine Bu Aa ?_ | refine Bc Aa ?_ | refine As Aa ?_ | refine Ak Aa ?_ | refine Aq Aa ?_ | refine Bj Aa ?_ | refine Bk Aa ?_) <;> refine Ac ?_) | ((first | refine Bh Aa Ab hS ?_ | refine Bt Aa Ab hS ?_ | refine Ba Aa Ab hS ?_ | refine Bd Aa Ab hS ?_); clear hS; intro b w hS; refine Ac ?_) | ((first | refine Av Aa Ab hS ?_ | refine Au Aa Ab hS ?_ | refine Bb Aa Ab hS ?_); clear hS; intro w hS; refine Ac ?_)) | ((fail_if_success (with_reducible refine Ad ?_)); first | go_step | go_step3 | rw [Exit.noGoto_normal] | rw [Exit.noGoto_ret] | rw [Exit.noGoto_exit]))
            refine s_app (L := [_, _]) (hS.perm (.cons _ (List.perm_append_comm (l₁ := [_, _])))) hR (by omega) (by rfl) (by rfl) (by rfl) (by rfl) ?_
            intro sv2 Lr2 w2 hR2 hS2
            refine Ac ?_
            replace hS := hS2.perm (List.perm_append_comm (l₂ := [_, _]))
            simp only [List.cons_append, List.nil_append] at hS
            clear hS2
            rw [← hst] at hR2
            obtain ⟨p2, c2, rfl⟩ := hR2.slice
            repeat' (first | ((with_reducible refine Ad ?_); first | ((first | refine Bn Aa ?_ | refine Bm Aa ?_ | refine Az Aa ?_ | refine Bf Aa Ab hS ?_ (hv := by first | rfl | exact Bl | (rw [Array.getElem?_toList]; first | exact q2 | exact hcut)) | refine Dp Aa (by first | exact ((hS).far hb).1) ?_ (hv := by first | rfl | exact Bl | (rw [Array.getElem?_toList]; first | exact q2 | exact hcut)) | refine Bi Aa Ab hS ?_ (hv := by first | exact Bq _ _ (by (try simp only [Ca, Ce, Bz, List.length_append, List.length_set, zs_len, List.length_take, List.length_drop, List.length_cons, List.length_nil]); first | done | rfl | omega) | (first | exact q2 | exact hcut) | rfl) | refine Dq Aa (by first | exact ((hS).far hb).1) ?_ (hv := by first | exact Bq _ _ (by (try simp only [Ca, Ce, Bz, List.length_append, List.length_set, zs_len, List.length_take, List.length_drop, List.length_cons, List.length_nil]); first | done | rfl | omega) | (first | exact q2 | exact hcut) | rfl) | refine Ag Aa ?_ | refine Af Aa ?_ | refine Bs Aa ?_ | refine Bx Aa ?_ | refine Ao Aa ?_ | refine Bw Aa ?_ | refine Br Aa ?_ | refine Be Aa ?_ | refine Bg Aa ?_ | refine Bv Aa (fun hc => ?_) (fun hc => ?_) | refine Ay Aa ?_ | refine Am Aa ?_ | refine Aw Aa ?_ | refine Ap Aa ?_ | refine Ah Aa ?_ | refine Ax Aa ?_ (hv' := by first | rfl | exact Bl | (rw [Array.getElem?_toList]; first | exact q2 | exact hcut)) | refine Ar Aa ?_ | refine Aj Aa ?_ | refine Ae Aa ?_ | refine Ai Aa ?_ | refine Bp Aa ?_ | refine Bo Aa ?_ | refine Bu Aa ?_ | refine Bc Aa ?_ | refine As Aa ?_ | refine Ak Aa ?_ | refine Aq Aa ?_ | refine Bj Aa ?_ | refine Bk Aa ?_) <;> refine Ac ?_) | ((first | refine Bh Aa Ab hS ?_ | refine Bt Aa Ab hS ?_ | refine Ba Aa Ab hS ?_ | refine Bd Aa Ab hS ?_); clear hS; intro b w hS; refine Ac ?_) | ((first | refine Av Aa Ab hS ?_ | refine Au Aa Ab hS ?_ | refine Bb Aa Ab hS ?_); clear hS; intro w hS; refine Ac ?_)) | ((fail_if_success (with_reducible refine Ad ?_)); first | go_step | go_step3 | rw [Exit.noGoto_normal] | rw [Exit.noGoto_ret] | rw [Exit.noGoto_exit]))
            go_roundw
            case rel => exact ⟨k + 1, Lr2, by omega, by push_cast; rfl, hR2, hS⟩
            case measure => simp [intOf]; omega
    · obtain rfl : k = l.length := by omega
      rw [List.take_length] at hR hfl ⊢
      unfold endR at hx
      dsimp only at hx
      rw [hq] at hx
      obtain ⟨left, hleft⟩ : ∃ left, l.filter q = left := ⟨_, rfl⟩
      rw [hleft] at hR hfl hx ⊢
      by_cases hh : h = -1
      · rw [if_neg (fun hz => hz.1 hh)] at hx
        subst hx
        repeat' (first | ((with_reducible refine Ad ?_); first | ((first | refine Bn Aa ?_ | refine Bm Aa ?_ | refine Az Aa ?_ | refine Bf Aa Ab hS ?_ | refine Bi Aa Ab hS ?_ | refine Ag Aa ?_ | refine Af Aa ?_ | refine Bs Aa ?_ | refine Bx Aa ?_ | refine Ao Aa ?_ | refine Bw Aa ?_ | refine Br Aa ?_ | refine Be Aa ?_ | refine Bg Aa ?_ | refine Bv Aa (fun hc => ?_) (fun hc => ?_) | refine Ay Aa ?_ | refine Am Aa ?_ | refine Aw Aa ?_ | refine Ap Aa ?_ | refine Ah Aa ?_ | refine Ax Aa ?_ | refine Ar Aa ?_ | refine Aj Aa ?_ | refine Ae Aa ?_ | refine Ai Aa ?_ | refine Bp Aa ?_ | refine Bo Aa ?_ | refine Bu Aa ?_ | refine Bc Aa ?_ | refine As Aa ?_ | refine Ak Aa ?_ | refine Aq Aa ?_ | refine Bj Aa ?_ | refine Bk Aa ?_) <;> refine Ac ?_) | ((first | refine Bh Aa Ab hS ?_ | refine Bt Aa Ab hS ?_ | refine Ba Aa Ab hS ?_ | refine Bd Aa Ab hS ?_); clear hS; intro b w hS; refine Ac ?_) | ((first | refine Av Aa Ab hS ?_ | refine Au Aa Ab hS ?_ | refine Bb Aa Ab hS ?_); clear hS; intro w hS; refine Ac ?_)) | ((fail_if_success (with_reducible refine Ad ?_)); first | go_step | go_step3 | rw [Exit.noGoto_normal] | rw [Exit.noGoto_ret] | rw [Exit.noGoto_exit]))
        exact post_cell (n := 5) Try.results37 (by kernel_rfl) (.inl rfl) _ _ _ _ rfl rfl (hS.blk 0 rfl) (by rfl) ⟨_, rfl, hR.own (L := [_, _]) (hS.perm (List.perm_append_comm (l₁ := [_, _]))), hS.below⟩
      · obtain ⟨K, hK⟩ : ∃ K, keyOf left h = K := ⟨_, rfl⟩
        rw [hK] at hx
        by_cases hk0 : K = 0
        · rw [if_pos ⟨hh, hk0⟩] at hx
          cases left with
          | nil =>
            subst hx
            repeat' (first | ((with_reducible refine Ad ?_); first | ((first | refine Bn Aa ?_ | refine Bm Aa ?_ | refine Az Aa ?_ | refine Bf Aa Ab hS ?_ | refine Bi Aa Ab hS ?_ | refine Ag Aa ?_ | refine Af Aa ?_ | refine Bs Aa ?_ | refine Bx Aa ?_ | refine Ao Aa ?_ | refine Bw Aa ?_ | refine Br Aa ?_ | refine Be Aa ?_ | refine Bg Aa ?_ | refine Bv Aa (fun hc => ?_) (fun hc => ?_) | refine Ay Aa ?_ | refine Am Aa ?_ | refine Aw Aa ?_ | refine Ap Aa ?_ | refine Ah Aa ?_ | refine Ax Aa ?_ | refine Ar Aa ?_ | refine Aj Aa ?_ | refine Ae Aa ?_ | refine Ai Aa ?_ | refine Bp Aa ?_ | refine Bo Aa ?_ | refine Bu Aa ?_ | refine Bc Aa ?_ | refine As Aa ?_ | refine Ak Aa ?_ | refine Aq Aa ?_ | refine Bj Aa ?_ | refine Bk Aa ?_) <;> refine Ac ?_) | ((first | refine Bh Aa Ab hS ?_ | refine Bt Aa Ab hS ?_ | refine Ba Aa Ab hS ?_ | refine Bd Aa Ab hS ?_); clear hS; intro b w hS; refine Ac ?_) | ((first | refine Av Aa Ab hS ?_ | refine Au Aa Ab hS ?_ | refine Bb Aa Ab hS ?_); clear hS; intro w hS; refine Ac ?_) | (refine Cb Aa Ab hS (key_c hK _ _ _ _ _ _ (hR.inn hS (by intro x hx; simp [hx])) (by omega)) ?_; clear hS; intro w hS; refine Ac ?_)) | ((fail_if_success (with_reducible refine Ad ?_)); first | go_step | go_step3 | rw [Exit.noGoto_normal] | rw [Exit.noGoto_ret] | rw [Exit.noGoto_exit]))
            all_goals first | (exact post_cell (n := 5) Try.results37 (by kernel_rfl) (.inl rfl) _ _ _ _ rfl rfl (hS.blk 0 rfl) (by rfl) ⟨_, rfl, hR.own (L := [_, _]) (hS.perm (List.perm_append_comm (l₁ := [_, _]))), hS.below⟩) | (exfalso; simp at *; done)
          | cons y m =>
            dsimp only at hx
            by_cases ht : 5 ≤ t
            · rw [if_pos ht] at hx
              subst hx
              rcases hR with ⟨_, hR0, _⟩ | ⟨g1, c1', sp, e1, hr1, hr2, hr3, rfl⟩
              · cases hR0
              · cases e1
                have hR : RgL (y :: m) (.slice (some ⟨g1, 0, none⟩) (y :: m).length c1) _ := .inr ⟨g1, c1, sp, rfl, hr1, hr2, hr3, rfl⟩
                have hlen : 0 < (y :: m).length := by simp
                repeat' (first | ((with_reducible refine Ad ?_); first | ((first | refine Bn Aa ?_ | refine Bm Aa ?_ | refine Az Aa ?_ | refine Bf Aa Ab hS ?_ | refine Bi Aa Ab hS ?_ | refine Ag Aa ?_ | refine Af Aa ?_ | refine Bs Aa ?_ | refine Bx Aa ?_ | refine Ao Aa ?_ | refine Bw Aa ?_ | refine Br Aa ?_ | refine Be Aa ?_ | refine Bg Aa ?_ | refine Bv Aa (fun hc => ?_) (fun hc => ?_) | refine Ay Aa ?_ | refine Am Aa ?_ | refine Aw Aa ?_ | refine Ap Aa ?_ | refine Ah Aa ?_ | refine Ax Aa ?_ | refine Ar Aa ?_ | refine Aj Aa ?_ | refine Ae Aa ?_ | refine Ai Aa ?_ | refine Bp Aa ?_ | refine Bo Aa ?_ | refine Bu Aa ?_ | refine Bc Aa ?_ | refine As Aa ?_ | refine Ak Aa ?_ | refine Aq Aa ?_ | refine Bj Aa ?_ | refine Bk Aa ?_) <;> refine Ac ?_) | ((first | refine Bh Aa Ab hS ?_ | refine Bt Aa Ab hS ?_ | refine Ba Aa Ab hS ?_ | refine Bd Aa Ab hS ?_); clear hS; intro b w hS; refine Ac ?_) | ((first | refine Av Aa Ab hS ?_ | refine Au Aa Ab hS ?_ | refine Bb Aa Ab hS ?_); clear hS; intro w hS; refine Ac ?_) | (refine Cb Aa Ab hS (key_c hK _ _ _ _ _ _ (hR.inn hS (by intro x hx; simp [hx])) (by omega)) ?_; clear hS; intro w hS; refine Ac ?_)) | ((fail_if_success (with_reducible refine Ad ?_)); first | go_step | go_step3 | rw [Exit.noGoto_normal] | rw [Exit.noGoto_ret] | rw [Exit.noGoto_exit]))
                exact post_cell (n := 5) Try.results37 (by kernel_rfl) (.inl rfl) _ _ _ _ rfl rfl (hS.blk 0 rfl) (by rfl) ⟨_, rfl, hR.own (L := [_, _]) (hS.perm (List.perm_append_comm (l₁ := [_, _]))), hS.below⟩
            · rw [if_neg ht] at hx
              subst hx
              repeat' (first | ((with_reducible refine Ad ?_); first | ((first | refine Bn Aa ?_ | refine Bm Aa ?_ | refine Az Aa ?_ | refine Bf Aa Ab hS ?_ | refine Bi Aa Ab hS ?_ | refine Ag Aa ?_ | refine Af Aa ?_ | refine Bs Aa ?_ | refine Bx Aa ?_ | refine Ao Aa ?_ | refine Bw Aa ?_ | refine Br Aa ?_ | refine Be Aa ?_ | refine Bg Aa ?_ | refine Bv Aa (fun hc => ?_) (fun hc => ?_) | refine Ay Aa ?_ | refine Am Aa ?_ | refine Aw Aa ?_ | refine Ap Aa ?_ | refine Ah Aa ?_ | refine Ax Aa ?_ | refine Ar Aa ?_ | refine Aj Aa ?_ | refine Ae Aa ?_ | refine Ai Aa ?_ | refine Bp Aa ?_ | refine Bo Aa ?_ | refine Bu Aa ?_ | refine Bc Aa ?_ | refine As Aa ?_ | refine Ak Aa ?_ | refine Aq Aa ?_ | refine Bj Aa ?_ | refine Bk Aa ?_) <;> refine Ac ?_) | ((first | refine Bh Aa Ab hS ?_ | refine Bt Aa Ab hS ?_ | refine Ba Aa Ab hS ?_ | refine Bd Aa Ab hS ?_); clear hS; intro b w hS; refine Ac ?_) | ((first | refine Av Aa Ab hS ?_ | refine Au Aa Ab hS ?_ | refine Bb Aa Ab hS ?_); clear hS; intro w hS; refine Ac ?_) | (refine Cb Aa Ab hS (key_c hK _ _ _ _ _ _ (hR.inn hS (by intro x hx; simp [hx])) (by omega)) ?_; clear hS; intro w hS; refine Ac ?_)) | ((fail_if_success (with_reducible refine Ad ?_)); first | go_step | go_step3 | rw [Exit.noGoto_normal] | rw [Exit.noGoto_ret] | rw [Exit.noGoto_exit]))
              exact post_cell (n := 5) Try.results37 (by kernel_rfl) (.inl rfl) _ _ _ _ rfl rfl (hS.blk 0 rfl) (by rfl) ⟨_, rfl, hR.own (L := [_, _]) (hS.perm (List.perm_append_comm (l₁ := [_, _]))), hS.below⟩
        · rw [if_neg (fun hz => hk0 hz.2)] at hx
          subst hx
          repeat' (first | ((with_reducible refine Ad ?_); first | ((first | refine Bn Aa ?_ | refine Bm Aa ?_ | refine Az Aa ?_ | refine Bf Aa Ab hS ?_ | refine Bi Aa Ab hS ?_ | refine Ag Aa ?_ | refine Af Aa ?_ | refine Bs Aa ?_ | refine Bx Aa ?_ | refine Ao Aa ?_ | refine Bw Aa ?_ | refine Br Aa ?_ | refine Be Aa ?_ | refine Bg Aa ?_ | refine Bv Aa (fun hc => ?_) (fun hc => ?_) | refine Ay Aa ?_ | refine Am Aa ?_ | refine Aw Aa ?_ | refine Ap Aa ?_ | refine Ah Aa ?_ | refine Ax Aa ?_ | refine Ar Aa ?_ | refine Aj Aa ?_ | refine Ae Aa ?_ | refine Ai Aa ?_ | refine Bp Aa ?_ | refine Bo Aa ?_ | refine Bu Aa ?_ | refine Bc Aa ?_ | refine As Aa ?_ | refine Ak Aa ?_ | refine Aq Aa ?_ | refine Bj Aa ?_ | refine Bk Aa ?_) <;> refine Ac ?_) | ((first | refine Bh Aa Ab hS ?_ | refine Bt Aa Ab hS ?_ | refine Ba Aa Ab hS ?_ | refine Bd Aa Ab hS ?_); clear hS; intro b w hS; refine Ac ?_) | ((first | refine Av Aa Ab hS ?_ | refine Au Aa Ab hS ?_ | refine Bb Aa Ab hS ?_); clear hS; intro w hS; refine Ac ?_) | (refine Cb Aa Ab hS (key_c hK _ _ _ _ _ _ (hR.inn hS (by intro x hx; simp [hx])) (by omega)) ?_; clear hS; intro w hS; refine Ac ?_)) | ((fail_if_success (with_reducible refine Ad ?_)); first | go_step | go_step3 | rw [Exit.noGoto_normal] | rw [Exit.noGoto_ret] | rw [Exit.noGoto_exit]))
          exact post_cell (n := 5) Try.results37 (by kernel_rfl) (.inl rfl) _ _ _ _ rfl rfl (hS.blk 0 rfl) (by rfl) ⟨_, rfl, hR.own (L := [_, _]) (hS.perm (List.perm_append_comm (l₁ := [_, _]))), hS.below⟩
end Go.Proofs.Ytkfggilildiflac

namespace Go.Proofs.Ytkfggilildiflac
open Go.ChangeShapes Go.WideShapes Go.ChangeAt Go.RowKit
theorem trod_gen {P : Program} {H : Type} {enc : TypeId × Value → H} {w : World} {base fuel : Nat} {sp : Nat → Bool} {held : Bool} {t e n : Nat} {cs : List Value} {x : DataW H × List MemPlace} {α : Type} (z : α) (f : α → List Value)
    (ht : P.underlying t = some (.slice e)) (hc : P.cellsOf e = n) (hn : 0 < n) (hlen : ∀ a, (f a).length = n) (hopen : ∀ fuel cs x, DataW.trod enc P w base sp held fuel e cs = some x → cs.length = n → ∃ a, cs = f a)
    (hf : DataW.trod enc P w base sp held fuel t cs = some x) :
    ∃ (v : Value) (l : List α), cs = [v] ∧ (∃ p c, v = .slice p l.length c ∧ l.length ≤ c ∧ (p = none → c = 0) ∧ (l ≠ [] → ∃ b o cs t fr, p = some ⟨b, o, none⟩ ∧ blk w b = some (.cells cs t fr) ∧ ∀ i x, (l.flatMap f)[i]? = some x → cs.toList[o + i]? = some x)) ∧ l.length ≤ maxLen := by
  have hv : ∃ a n c, cs = [.slice a n c] := by
    rcases Go.Deep.open_slice ht hf with ⟨hcs, _⟩ | ⟨a, len, cap, m, n2, D, Pl, hcs, _⟩
    · exact ⟨_, _, _, hcs⟩
    · exact ⟨_, _, _, hcs⟩
  obtain ⟨a, m, c, rfl⟩ := hv
  obtain ⟨l, h1, h2⟩ := open_gen (v := .slice a m c) (d := x.1) (p := x.2) z f ht hc hn hlen hopen ⟨_, _, _, rfl⟩ ⟨fuel, hf⟩
  exact ⟨_, l, rfl, h1, h2⟩
theorem two_parts {L : List Value} {a b : Value} (h : L.length = 2) (h0 : (L.drop 0).take 1 = [a]) (h1 : (L.drop 1).take 1 = [b]) : L = [a, b] := by
  match L, h with
  | [a', b'], _ => simp at h0 h1; simp [h0, h1]
theorem fiveR_parts {L : List Value} {a b c d e : Value} (h : L.length = 5) (h0 : (L.drop 0).take 1 = [a]) (h1 : (L.drop 1).take 1 = [b]) (h2 : (L.drop 2).take 1 = [c]) (h3 : (L.drop 3).take 1 = [d]) (h4 : (L.drop 4).take 1 = [e]) : L = [a, b, c, d, e] := by
  match L, h with
  | [a', b', c', d', e'], _ => simp at h0 h1 h2 h3 h4; simp [h0, h1, h2, h3, h4]
def cellsG (g : Rg) : List Value := [.int .i64 g.1, .int .i64 g.2]
set_option maxRecDepth 100000
theorem cells_reg : Try.prog.cellsOf 39 = 2 := by kernel_rfl
theorem cells_resv : Try.prog.cellsOf 24 = 5 := by kernel_rfl
theorem open_reg {H : Type} {enc : TypeId × Value → H} {w : World} {base fuel : Nat} {sp : Nat → Bool} {held : Bool} {cs : List Value} {x : DataW H × List MemPlace}
    (hf : DataW.trod enc Try.prog w base sp held fuel 39 cs = some x) (hsz : cs.length = 2) : ∃ a : Rg, cs = cellsG a := by
  obtain ⟨xs, n, rfl, hx, hl, hxl, hi⟩ := DataW.trod_struct Try.underlying39 hf
  have hxl5 : xs.length = 2 := hxl
  have g (i : Nat) (h : i < 2) : xs[i]? = some xs[i] := List.getElem?_eq_getElem (by omega)
  have h0 := (hi 0 _ rfl).trans (g 0 (by omega))
  have h1 := (hi 1 _ rfl).trans (g 1 (by omega))
  obtain ⟨x0, e0, _⟩ := trod_int1 Try.underlying3 h0
  obtain ⟨x1, e1, _⟩ := trod_int1 Try.underlying3 h1
  exact ⟨(x0, x1), two_parts hsz e0 e1⟩
theorem open_resv {H : Type} {enc : TypeId × Value → H} {w W : World} {r : Reach} {b0 base : Nat} {sp : Nat → Bool} {held : Bool} {v : Value} {d : DataW H} {p : List MemPlace}
    (hv : Value.okWide Try.prog W r b0 24 v) (ht : DataW.Trod enc Try.prog w base sp held 24 v d p) :
    ∃ (rv : Value) (l : List Rg) (h t g : Int) (s : Bool), RegsAt w rv l ∧ l.length ≤ maxLen ∧ v = .agg #[rv, .int .i64 h, .int .i64 t, .bool s, .int .i64 g] := by
  have hu := Try.underlying24
  obtain ⟨cs, rfl, hsz⟩ := okWide_struct hu hv
  rw [cells_resv] at hsz
  obtain ⟨fuel, hf⟩ := ht
  obtain ⟨xs, n, rfl, hx, hl, hxl, hi⟩ := DataW.trod_struct hu hf
  have hxl5 : xs.length = 5 := hxl
  have g (i : Nat) (h : i < 5) : xs[i]? = some xs[i] := List.getElem?_eq_getElem (by omega)
  have h0 := (hi 0 _ rfl).trans (g 0 (by omega))
  have h1 := (hi 1 _ rfl).trans (g 1 (by omega))
  have h2 := (hi 2 _ rfl).trans (g 2 (by omega))
  have h3 := (hi 3 _ rfl).trans (g 3 (by omega))
  have h4 := (hi 4 _ rfl).trans (g 4 (by omega))
  obtain ⟨rv, l, e0, B0, m0⟩ := trod_gen (0, 0) cellsG Try.underlying22 cells_reg (by omega) (fun _ => rfl) (fun _ _ _ hf hl => open_reg hf hl) h0
  obtain ⟨y1, e1, _⟩ := trod_int1 Try.underlying3 h1
  obtain ⟨y2, e2, _⟩ := trod_int1 Try.underlying3 h2
  obtain ⟨y3, e3⟩ := trod_bool1 Try.underlying4 h3
  obtain ⟨y4, e4, _⟩ := trod_int1 Try.underlying3 h4
  refine ⟨rv, l, y1, y2, y4, y3, B0, m0, ?_⟩
  have hL := fiveR_parts (L := cs.toList) (by simpa using hsz) e0 e1 e2 e3 e4
  rw [← Array.toArray_toList (xs := cs), hL]
theorem open_op1 {H : Type} {enc : TypeId × Value → H} {w W : World} {r : Reach} {b0 base : Nat} {sp : Nat → Bool} {held : Bool} {v : Value} {d : DataW H} {p : List MemPlace}
    (hv : Value.okWide Try.prog W r b0 26 v) (ht : DataW.Trod enc Try.prog w base sp held 26 v d p) :
    ∃ a : Ro, v = .agg #[.int .i64 a.op, .int .i64 a.who, .int .i64 a.key, .int .i64 a.new, .int .i64 a.typ, .bool a.stays] := by
  obtain ⟨cs, rfl, hsz⟩ := okWide_struct Try.underlying26 hv
  rw [cells_op] at hsz
  obtain ⟨fuel, hf⟩ := ht
  obtain ⟨a, ha⟩ := open_op hf hsz
  refine ⟨a, ?_⟩
  rw [← Array.toArray_toList (xs := cs)]
  exact congrArg (fun l : List Value => Value.agg l.toArray) ha
end Go.Proofs.Ytkfggilildiflac
