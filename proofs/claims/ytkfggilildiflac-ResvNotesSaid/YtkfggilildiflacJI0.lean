/-
  Laws that the claims of this seat use, of several texts in one: OpenResv, ResvX, ResvY, Wd, Wp, Wp1, Wn, Wf, AnyW. No condition of their own.
-/
import Derived.Laws.StructEq
import Derived.Test.YtkfggilildiflacJH0

namespace Go.Proofs.Ytkfggilildiflac
open Go.ChangeShapes Go.WideShapes Go.ChangeAt Go.RowKit
theorem trod_gen {P : Program} {H : Type} {enc : TypeId × Value → H} {w : World} {base fuel : Nat} {sp : Nat → Bool} {held : Bool} {t e n : Nat} {cs : List Value} {x : DataW H × List MemPlace} {α : Type} (z : α) (f : α → List Value)
    (ht : P.underlying t = some (.slice e)) (hc : P.cellsOf e = n) (hn : 0 < n) (hlen : ∀ a, (f a).length = n) (hopen : ∀ fuel cs x, DataW.trod enc P w base sp held fuel e cs = some x → cs.length = n → ∃ a, cs = f a)
    (hf : DataW.trod enc P w base sp held fuel t cs = some x) :
    ∃ (v : Value) (l : List α), cs = [v] ∧ (∃ p c, v = .slice p l.length c ∧ l.length ≤ c ∧ (p = none → c = 0) ∧ (l ≠ [] → ∃ b o cs t fr, p = some ⟨b, o, none⟩ ∧ blk w b = some (.cells cs t fr) ∧ ∀ i x, (l.flatMap f)[i]? = some x → cs.toList[o + i]? = some x)) ∧ l.length ≤ maxLen := by
  have hv : ∃ a n c, cs = [.slice a n c] := by
    rcases Go.Deep.open_slice ht hf with ⟨hcs, _⟩ | ⟨a, len, cap, m, n2, D, Pl, hcs, _⟩
    · exact ⟨_, _, _, hcs⟩
    · exact ⟨_, _, _, hcs⟩
  obtain ⟨a, m, c, rfl⟩ := hv
  obtain ⟨l, h1, h2⟩ := open_gen (v := .slice a m c) (d := x.1) (p := x.2) z f ht hc hn hlen hopen ⟨_, _, _, rfl⟩ ⟨fuel, hf⟩
  exact ⟨_, l, rfl, h1, h2⟩
theorem two_parts {L : List Value} {a b : Value} (h : L.length = 2) (h0 : (L.drop 0).take 1 = [a]) (h1 : (L.drop 1).take 1 = [b]) : L = [a, b] := by
  match L, h with
  | [a', b'], _ => simp at h0 h1; simp [h0, h1]
theorem fiveR_parts {L : List Value} {a b c d e : Value} (h : L.length = 5) (h0 : (L.drop 0).take 1 = [a]) (h1 : (L.drop 1).take 1 = [b]) (h2 : (L.drop 2).take 1 = [c]) (h3 : (L.drop 3).take 1 = [d]) (h4 : (L.drop 4).take 1 = [e]) : L = [a, b, c, d, e] := by
  match L, h with
  | [a', b', c', d', e'], _ => simp at h0 h1 h2 h3 h4; simp [h0, h1, h2, h3, h4]
def cellsG (g : Rg) : List Value := [.int .i64 g.1, .int .i64 g.2]
set_option maxRecDepth 100000
theorem cells_reg : Try.prog.cellsOf 39 = 2 := by kernel_rfl
theorem cells_resv : Try.prog.cellsOf 24 = 5 := by kernel_rfl
theorem open_reg {H : Type} {enc : TypeId × Value → H} {w : World} {base fuel : Nat} {sp : Nat → Bool} {held : Bool} {cs : List Value} {x : DataW H × List MemPlace}
    (hf : DataW.trod enc Try.prog w base sp held fuel 39 cs = some x) (hsz : cs.length = 2) : ∃ a : Rg, cs = cellsG a := by
  obtain ⟨xs, n, rfl, hx, hl, hxl, hi⟩ := DataW.trod_struct Try.underlying39 hf
  have hxl5 : xs.length = 2 := hxl
  have g (i : Nat) (h : i < 2) : xs[i]? = some xs[i] := List.getElem?_eq_getElem (by omega)
  have h0 := (hi 0 _ rfl).trans (g 0 (by omega))
  have h1 := (hi 1 _ rfl).trans (g 1 (by omega))
  obtain ⟨x0, e0, _⟩ := trod_int1 Try.underlying3 h0
  obtain ⟨x1, e1, _⟩ := trod_int1 Try.underlying3 h1
  exact ⟨(x0, x1), two_parts hsz e0 e1⟩
theorem open_resv {H : Type} {enc : TypeId × Value → H} {w W : World} {r : Reach} {b0 base : Nat} {sp : Nat → Bool} {held : Bool} {v : Value} {d : DataW H} {p : List MemPlace}
    (hv : Value.okWide Try.prog W r b0 24 v) (ht : DataW.Trod enc Try.prog w base sp held 24 v d p) :
    ∃ (rv : Value) (l : List Rg) (h t g : Int) (s : Bool), RegsAt w rv l ∧ l.length ≤ maxLen ∧ v = .agg #[rv, .int .i64 h, .int .i64 t, .bool s, .int .i64 g] := by
  have hu := Try.underlying24
  obtain ⟨cs, rfl, hsz⟩ := okWide_struct hu hv
  rw [cells_resv] at hsz
  obtain ⟨fuel, hf⟩ := ht
  obtain ⟨xs, n, rfl, hx, hl, hxl, hi⟩ := DataW.trod_struct hu hf
  have hxl5 : xs.length = 5 := hxl
  have g (i : Nat) (h : i < 5) : xs[i]? = some xs[i] := List.getElem?_eq_getElem (by omega)
  have h0 := (hi 0 _ rfl).trans (g 0 (by omega))
  have h1 := (hi 1 _ rfl).trans (g 1 (by omega))
  have h2 := (hi 2 _ rfl).trans (g 2 (by omega))
  have h3 := (hi 3 _ rfl).trans (g 3 (by omega))
  have h4 := (hi 4 _ rfl).trans (g 4 (by omega))
  obtain ⟨rv, l, e0, B0, m0⟩ := trod_gen (0, 0) cellsG Try.underlying22 cells_reg (by omega) (fun _ => rfl) (fun _ _ _ hf hl => open_reg hf hl) h0
  obtain ⟨y1, e1, _⟩ := trod_int1 Try.underlying3 h1
  obtain ⟨y2, e2, _⟩ := trod_int1 Try.underlying3 h2
  obtain ⟨y3, e3⟩ := trod_bool1 Try.underlying4 h3
  obtain ⟨y4, e4, _⟩ := trod_int1 Try.underlying3 h4
  refine ⟨rv, l, y1, y2, y4, y3, B0, m0, ?_⟩
  have hL := fiveR_parts (L := cs.toList) (by simpa using hsz) e0 e1 e2 e3 e4
  rw [← Array.toArray_toList (xs := cs), hL]
theorem open_op1 {H : Type} {enc : TypeId × Value → H} {w W : World} {r : Reach} {b0 base : Nat} {sp : Nat → Bool} {held : Bool} {v : Value} {d : DataW H} {p : List MemPlace}
    (hv : Value.okWide Try.prog W r b0 26 v) (ht : DataW.Trod enc Try.prog w base sp held 26 v d p) :
    ∃ a : Ro, v = .agg #[.int .i64 a.op, .int .i64 a.who, .int .i64 a.key, .int .i64 a.new, .int .i64 a.typ, .bool a.stays] := by
  obtain ⟨cs, rfl, hsz⟩ := okWide_struct Try.underlying26 hv
  rw [cells_op] at hsz
  obtain ⟨fuel, hf⟩ := ht
  obtain ⟨a, ha⟩ := open_op hf hsz
  refine ⟨a, ?_⟩
  rw [← Array.toArray_toList (xs := cs)]
  exact congrArg (fun l : List Value => Value.agg l.toArray) ha
end Go.Proofs.Ytkfggilildiflac

namespace Go.Proofs.Ytkfggilildiflac
open Go.ChangeShapes Go.WideShapes Go.ChangeAt Go.RowKit
attribute [local irreducible] wpList wpListIn Oper.quietAt wpM
theorem nobodyRef_any (w0 : World) : Calls Try.prog 26 #[] w0 fun e w' => e = .returned (.agg #[.slice none 0 0, .int .i64 (-1), .int .i64 0, .bool false, .int .i64 0]) ∧ Below w0.heap.size w0 w' := by
  have hS := St.start w0
  go_enter Try.func26, Try.ntmps26
  repeat' (first | ((with_reducible refine Ad ?_); first | ((first | refine Bn Aa ?_ | refine Bj Aa ?_ | refine Bk Aa ?_) <;> refine Ac ?_) | ((first | refine Bh Aa Ab hS ?_ | refine Ba Aa Ab hS ?_ | refine Bd Aa Ab hS ?_); clear hS; intro b w hS; refine Ac ?_) | ((first | refine Au Aa Ab hS ?_ | refine Bb Aa Ab hS ?_); clear hS; intro w hS; refine Ac ?_)) | ((fail_if_success (with_reducible refine Ad ?_)); first | go_step | go_step3 | rw [Exit.noGoto_normal] | rw [Exit.noGoto_ret] | rw [Exit.noGoto_exit]))
  exact post_cell (n := 5) Try.results26 (by kernel_rfl) (.inl rfl) _ _ _ _ rfl rfl (hS.blk 0 rfl) (by rfl) (⟨rfl, hS.below⟩)
theorem r_neB {P : Program} {o : Oper} {a : Act} {w : World} {t t' : TypeId} {x y : Operand} {m n q : Bool} (hop : o.op = .binOp .neq t x y t') (hx : evO a x = some (.bool m)) (hy : evO a y = some (.bool n)) (ht : P.underlying t = some .bool) (hq : (!(m == n)) = q) : (execOp a.eval o).run P w = .ok (.value (.bool q)) w := by
  unfold execOp; rw [hop]; subst hq
  simp [Ct hx, Ct hy, eqGuard, binOp, run_equal_bool w t m n ht]
set_option maxRecDepth 100000 in
theorem neReg (x1 x2 y1 y2 : Int) (w : World) : (binOp .neq 39 (.agg #[.int .i64 x1, .int .i64 x2]) (.agg #[.int .i64 y1, .int .i64 y2])).run Try.prog w = .ok (.bool (!(x1 == y1 && x2 == y2))) w := by
  rw [run_neq_struct, run_equalIn_agg w 9999 39 _ _ (by kernel_rfl) (by kernel_rfl)]
  unfold Program.fieldsOf
  rw [show Try.prog.underlying 39 = _ from Try.underlying39]
  by_cases h1 : x1 = y1
  · by_cases h2 : x2 = y2
    · simp [Op.eqFields, go_sem, h1, h2]
    · simp [Op.eqFields, go_sem, h1, h2]
  · simp [Op.eqFields, go_sem, h1]
theorem r_neReg {o : Oper} {a : Act} {w : World} {t' : TypeId} {x y : Operand} {x1 x2 y1 y2 : Int} {q : Bool} (hop : o.op = .binOp .neq 39 x y t') (hx : evO a x = some (.agg #[.int .i64 x1, .int .i64 x2])) (hy : evO a y = some (.agg #[.int .i64 y1, .int .i64 y2])) (hg : Try.prog.eqGuardType Try.prog.depth 39 = false) (hq : (!(x1 == y1 && x2 == y2)) = q) : (execOp a.eval o).run Try.prog w = .ok (.value (.bool q)) w := by
  unfold execOp; rw [hop]; subst hq
  simp [Ct hx, Ct hy, Sem.run_bind, run_eqGuard_agg w .neq 39 x y _ _ hg, neReg]
theorem take_reg {l : List Rg} {k : Nat} (hk : k < l.length) : l.take (k + 1) = l.take k ++ [l.getD k (0, 0)] := by
  rw [List.take_succ_eq_append_getElem hk, List.getD_eq_getElem?_getD, List.getElem?_eq_getElem hk]; rfl
set_option maxRecDepth 100000 in
set_option maxHeartbeats 8000000 in
theorem sameRef_any {B : Bool} (la lb : List Rg) (va vb : Value) (ha ta ga hb tb gb : Int) (sa sb : Bool) (hB : B = true ↔ la = lb ∧ ha = hb ∧ ta = tb ∧ sa = sb ∧ ga = gb) (w0 : World) (hva : RegsAt w0 va la) (hvb : RegsAt w0 vb lb) (hm : la.length ≤ 1000000) :
    Calls Try.prog 12 #[.agg #[va, .int .i64 ha, .int .i64 ta, .bool sa, .int .i64 ga], .agg #[vb, .int .i64 hb, .int .i64 tb, .bool sb, .int .i64 gb]] w0 fun e w' => e = .returned (.bool B) ∧ Below w0.heap.size w0 w' := by
  obtain ⟨pa, ca, rfl, hca⟩ := hva.slice
  obtain ⟨pb, cb, rfl, hcb⟩ := hvb.slice
  have hS := St.start w0
  by_cases hall : la.length = lb.length ∧ ha = hb ∧ ta = tb ∧ sa = sb ∧ ga = gb
  · obtain ⟨hlen, rfl, rfl, rfl, rfl⟩ := hall
    have hB2 : B = true ↔ la = lb := by rw [hB]; simp
    clear hB
    go_enter Try.func12, Try.ntmps12
    repeat' (first | ((with_reducible refine Ad ?_); first | ((first | refine Bn Aa ?_ | refine Bm Aa ?_ | refine Az Aa ?_ | refine Bf Aa Ab hS ?_ | refine Bi Aa Ab hS ?_ | refine Ag Aa ?_ | refine Af Aa ?_ | refine Bs Aa ?_ | refine Bw Aa ?_ | refine Be Aa ?_ | refine Bg Aa ?_ | refine Bv Aa (fun hc => ?_) (fun hc => ?_) | refine Ah Aa ?_ | refine Bo Aa ?_) <;> refine Ac ?_) | ((first | refine Bt Aa Ab hS ?_); clear hS; intro b w hS; refine Ac ?_) | (refine Stp.go Aa (by rfl) (by rfl) (r_neB (by rfl) (by rfl) (by rfl) (by rfl) (show (!(sa == sa)) = false by simp)) ?_; refine Ac ?_)) | ((fail_if_success (with_reducible refine Ad ?_)); first | go_step | go_step3 | rw [Exit.noGoto_normal] | rw [Exit.noGoto_ret] | rw [Exit.noGoto_exit]))
    rename_i b2 z1 z2 z3
    go_loopw [5] (fun u5 wr => ∃ k : Nat, k ≤ la.length ∧ u5 = .int .i64 (k : Int) ∧ la.take k = lb.take k ∧ St w0 wr [(b, #[.slice pb lb.length cb, .int .i64 ha, .int .i64 ta, .bool sa, .int .i64 ga], 24), (b2, #[.slice pa la.length ca, .int .i64 ha, .int .i64 ta, .bool sa, .int .i64 ga], 24)]) (fun u5 _ => la.length - (intOf u5).toNat)
    case atStart => exact ⟨0, by omega, rfl, rfl, hS⟩
    case round =>
      obtain ⟨k, hk, rfl, hpre, hS⟩ := hrel
      by_cases hlt : k < la.length
      · obtain ⟨r1, o1, c1, t1, f1, rfl, hb1, hcell1⟩ := hva.open_ (by omega)
        obtain ⟨r2, o2, c2, t2, f2, rfl, hb2, hcell2⟩ := hvb.open_ (by omega)
        have hlt2 : k < lb.length := by omega
        have q1 := csz_reg hcell1 hlt
        have q2 := csz_reg hcell2 hlt2
        have hcut1 := cut_reg hcell1 hlt
        have hcut2 := cut_reg hcell2 hlt2
        have ht1 := take_reg hlt
        have ht2 := take_reg hlt2
        obtain ⟨⟨x1, x2⟩, hx⟩ : ∃ x, la.getD k (0, 0) = x := ⟨_, rfl⟩
        obtain ⟨⟨y1, y2⟩, hy⟩ : ∃ y, lb.getD k (0, 0) = y := ⟨_, rfl⟩
        rw [hx] at hcut1 ht1
        rw [hy] at hcut2 ht2
        dsimp only at hcut1 hcut2
        obtain ⟨Q, hQ⟩ : ∃ Q, (!(x1 == y1 && x2 == y2)) = Q := ⟨_, rfl⟩
        repeat' (first | ((with_reducible refine Ad ?_); first | ((first | refine Bn Aa ?_ | refine Bm Aa ?_ | refine Az Aa ?_ | refine Bf Aa Ab hS ?_ | refine Bi Aa Ab hS ?_ | refine Ag Aa ?_ | refine Af Aa ?_ | refine Bs Aa ?_ | refine Bw Aa ?_ | refine Be Aa ?_ | refine Bg Aa ?_ | refine Bv Aa (fun hc => ?_) (fun hc => ?_) | refine Ah Aa ?_ | refine Bo Aa ?_) <;> refine Ac ?_) | ((first | refine Bt Aa Ab hS ?_); clear hS; intro b w hS; refine Ac ?_)) | ((fail_if_success (with_reducible refine Ad ?_)); first | go_step | go_step3 | rw [Exit.noGoto_normal] | rw [Exit.noGoto_ret] | rw [Exit.noGoto_exit]))
        refine Cd 11 (by kernel_rfl) (by kernel_rfl) ?_
        dsimp only [List.take, List.drop]
        iterate 11 (first | (refine Dd (fun _ => rfl) ?_; simp only [Act.put, List.setIfInBounds_toArray, List.set_cons_zero, List.set_cons_succ]) | (refine Cr rfl (fun _ => rfl) _ (fun w => r_alloc (a := ⟨#[], []⟩) rfl (by infer_instance)) ?_; simp only [Act.put, List.setIfInBounds_toArray, List.set_cons_zero, List.set_cons_succ]) | (refine Cm rfl (fun _ => rfl) (fun K hK => ?_); apply Exists.intro; apply Exists.intro; apply Exists.intro; apply Exists.intro; refine ⟨fun pB w' hw' hF => ?_, hK _ _ ?_⟩; (focus (exact Cg (by rfl) (by rfl) (by infer_instance) (by rfl) (by repeat (first | exact (fun _ h => absurd h List.not_mem_nil) | refine List.forall_mem_cons.2 ⟨by first | rfl | (simp only [Value.cells]; first | rfl | omega), ?_⟩)) (by (try conv => lhs; simp only [List.flatMap_cons, List.flatMap_nil, Value.cells, List.append_nil, List.cons_append, List.nil_append]); first | done | rfl) (by decide) (by decide))); clear hK K; simp only [Act.put, List.setIfInBounds_toArray, List.set_cons_zero, List.set_cons_succ]) | (refine Cx (fun _ => rfl) (fun K hK => ?_); apply Exists.intro; refine ⟨fun pB w' hw' hF => ?_, hK _ _ ?_⟩; (focus (have hZ := (Ab).call hS hw'; first | exact (q_val (r_neReg (by rfl) (by rfl) (by rfl) (by kernel_rfl) hQ)) | exact Dv | exact Cz | exact Dk Ab hZ (hv := by first | rfl | exact Bl | (rw [Array.getElem?_toList]; first | exact hcut1 | exact hcut2)) | exact Dr (by first | exact ((hZ).far hb1).1) (hv := by first | rfl | exact Bl | (rw [Array.getElem?_toList]; first | exact hcut1 | exact hcut2)) | exact Dr (by first | exact ((hZ).far hb2).1) (hv := by first | rfl | exact Bl | (rw [Array.getElem?_toList]; first | exact hcut1 | exact hcut2)) | exact Dl Ab hZ (hv := by first | exact Bq _ _ (by (try simp only [Ca, Ce, Bz, List.length_append, List.length_set, zs_len, List.length_take, List.length_drop, List.length_cons, List.length_nil]); first | done | rfl | omega) | (first | exact hcut1 | exact hcut2) | rfl) | exact Dt (by first | exact ((hZ).far hb1).1) (hv := by first | exact Bq _ _ (by (try simp only [Ca, Ce, Bz, List.length_append, List.length_set, zs_len, List.length_take, List.length_drop, List.length_cons, List.length_nil]); first | done | rfl | omega) | (first | exact hcut1 | exact hcut2) | rfl) | exact Dt (by first | exact ((hZ).far hb2).1) (hv := by first | exact Bq _ _ (by (try simp only [Ca, Ce, Bz, List.length_append, List.length_set, zs_len, List.length_take, List.length_drop, List.length_cons, List.length_nil]); first | done | rfl | omega) | (first | exact hcut1 | exact hcut2) | rfl) | exact Ci | exact Cf | exact Dz | exact Dx | exact Co | exact Dy | exact Dw | exact q_mul | exact q_quo | exact q_rem | exact Dn | exact Dm | exact Dc | exact Cp | exact Cw | exact Cq | exact Ch | exact Db (hv' := by first | rfl | exact Bl | (rw [Array.getElem?_toList]; first | exact hcut1 | exact hcut2)) | exact Cy | exact Cj | exact q_neqSlNil | exact Cc | exact Cl | exact Du | exact Ds | exact Ea | exact Dj | exact Da | exact Ck | exact Dg | exact Df | exact Cn)); clear hK K; simp only [Act.put, List.setIfInBounds_toArray, List.set_cons_zero, List.set_cons_succ]))
        refine Di ?_
        intro pB w hcq hfq hnq
        replace hS := (Ab).news hS hcq _ (by first | decide | simp) hfq hnq
        first | simp only [List.map_nil, List.nil_append] at hS | simp only [List.map_cons, List.map_nil, List.cons_append, List.nil_append] at hS
        clear hcq hfq hnq
        try dsimp only
        cases Q with
        | true =>
          have hne : B = false := Bool.eq_false_iff.2 fun hb => by
            have e := hB2.1 hb
            subst e
            rw [hx] at hy
            simp only [Prod.mk.injEq] at hy
            obtain ⟨rfl, rfl⟩ := hy
            simp at hQ
          subst hne
          repeat' (first | ((with_reducible refine Ad ?_); first | ((first | refine Bn Aa ?_ | refine Bm Aa ?_ | refine Az Aa ?_ | refine Bf Aa Ab hS ?_ | refine Bi Aa Ab hS ?_ | refine Ag Aa ?_ | refine Af Aa ?_ | refine Bs Aa ?_ | refine Bw Aa ?_ | refine Be Aa ?_ | refine Bg Aa ?_ | refine Bv Aa (fun hc => ?_) (fun hc => ?_) | refine Ah Aa ?_ | refine Bo Aa ?_) <;> refine Ac ?_) | ((first | refine Bt Aa Ab hS ?_); clear hS; intro b w hS; refine Ac ?_)) | ((fail_if_success (with_reducible refine Ad ?_)); first | go_step | go_step3 | rw [Exit.noGoto_normal] | rw [Exit.noGoto_ret] | rw [Exit.noGoto_exit]))
          go_ret
          exact ⟨rfl, hS.below⟩
        | false =>
          have hxy : x1 = y1 ∧ x2 = y2 := by simpa using hQ
          repeat' (first | ((with_reducible refine Ad ?_); first | ((first | refine Bn Aa ?_ | refine Bm Aa ?_ | refine Az Aa ?_ | refine Bf Aa Ab hS ?_ | refine Bi Aa Ab hS ?_ | refine Ag Aa ?_ | refine Af Aa ?_ | refine Bs Aa ?_ | refine Bw Aa ?_ | refine Be Aa ?_ | refine Bg Aa ?_ | refine Bv Aa (fun hc => ?_) (fun hc => ?_) | refine Ah Aa ?_ | refine Bo Aa ?_) <;> refine Ac ?_) | ((first | refine Bt Aa Ab hS ?_); clear hS; intro b w hS; refine Ac ?_)) | ((fail_if_success (with_reducible refine Ad ?_)); first | go_step | go_step3 | rw [Exit.noGoto_normal] | rw [Exit.noGoto_ret] | rw [Exit.noGoto_exit]))
          go_roundw
          case rel => exact ⟨k + 1, by omega, by push_cast; rfl, by rw [ht1, ht2, hpre, hxy.1, hxy.2], hS⟩
          case measure => simp [intOf]; omega
      · obtain rfl : k = la.length := by omega
        have e : la = lb := by rw [List.take_length, hlen, List.take_length] at hpre; exact hpre
        have hT := hB2.2 e
        subst hT
        repeat' (first | ((with_reducible refine Ad ?_); first | ((first | refine Bn Aa ?_ | refine Bm Aa ?_ | refine Az Aa ?_ | refine Bf Aa Ab hS ?_ | refine Bi Aa Ab hS ?_ | refine Ag Aa ?_ | refine Af Aa ?_ | refine Bs Aa ?_ | refine Bw Aa ?_ | refine Be Aa ?_ | refine Bg Aa ?_ | refine Bv Aa (fun hc => ?_) (fun hc => ?_) | refine Ah Aa ?_ | refine Bo Aa ?_) <;> refine Ac ?_) | ((first | refine Bt Aa Ab hS ?_); clear hS; intro b w hS; refine Ac ?_)) | ((fail_if_success (with_reducible refine Ad ?_)); first | go_step | go_step3 | rw [Exit.noGoto_normal] | rw [Exit.noGoto_ret] | rw [Exit.noGoto_exit]))
        go_ret
        exact ⟨rfl, hS.below⟩
  · have hne : B = false := Bool.eq_false_iff.2 fun hb1 => hall (by
      obtain ⟨h1, h2⟩ := hB.1 hb1
      exact ⟨by rw [h1], h2⟩)
    subst hne
    clear hB
    obtain ⟨Q, hQ⟩ : ∃ Q, (!(sa == sb)) = Q := ⟨_, rfl⟩
    have hQs : Q = false → sa = sb := fun h => by subst hQ; simpa using h
    go_enter Try.func12, Try.ntmps12
    cases Q
    all_goals
      repeat' (first | ((with_reducible refine Ad ?_); first | ((first | refine Bn Aa ?_ | refine Bm Aa ?_ | refine Az Aa ?_ | refine Bf Aa Ab hS ?_ | refine Bi Aa Ab hS ?_ | refine Ag Aa ?_ | refine Af Aa ?_ | refine Bs Aa ?_ | refine Bw Aa ?_ | refine Be Aa ?_ | refine Bg Aa ?_ | refine Bv Aa (fun hc => ?_) (fun hc => ?_) | refine Ah Aa ?_ | refine Bo Aa ?_) <;> refine Ac ?_) | ((first | refine Bt Aa Ab hS ?_); clear hS; intro b w hS; refine Ac ?_) | (refine Stp.go Aa (by rfl) (by rfl) (r_neB (by rfl) (by rfl) (by rfl) (by rfl) hQ) ?_; refine Ac ?_)) | ((fail_if_success (with_reducible refine Ad ?_)); first | go_step | go_step3 | rw [Exit.noGoto_normal] | rw [Exit.noGoto_ret] | rw [Exit.noGoto_exit]))
      all_goals first | (go_ret; exact ⟨rfl, hS.below⟩) | (exfalso; exact hall ⟨by omega, by omega, by omega, hQs rfl, by omega⟩)
end Go.Proofs.Ytkfggilildiflac

namespace Go.Proofs.Ytkfggilildiflac
open Go.ChangeShapes Go.WideShapes Go.ChangeAt Go.RowKit
attribute [local irreducible] wpList wpListIn Oper.quietAt wpM
theorem s_app {ops : Array Oper} {Q : Exit → Act → World → Prop} {o : Oper} {rest : List Oper} {a : Act} {w W0 : World} {l : List Rg} {sv : Value} {Lr L : List Blk} {who key : Int} {nb : Nat} {x y : Operand}
    (hS : St W0 w ((nb, #[.int .i64 who, .int .i64 key], 39) :: (Lr ++ L))) (hR : RgL l sv Lr) (hm : l.length ≤ 1000)
    (hw : Region.wanted o (yielded ops a.tmps) = true) (hop : o.op = .call { callee := .builtin .append, args := #[x, y], argTypes := #[22, 22] }) (hx : evO a x = some sv) (hy : evO a y = some (.slice (some ⟨nb, 0, none⟩) 1 1))
    (hk : ∀ sv' Lr' w', RgL (l ++ [(who, key)]) sv' Lr' → St W0 w' (Lr' ++ L) → wpList Try.prog ops Q rest (a.put o.dst sv') w') : wpList Try.prog ops Q (o :: rest) a w := by
  have hsrc : ∀ (w : World), blk w nb = some (.cells #[.int .i64 who, .int .i64 key] 39 (0, 0)) → ∀ j v, (rgs [(who, key)])[j]? = some v → w.cell? ((⟨nb, 0, none⟩ : Addr).add j) = some v := fun w hb => src_blk hb (fun j v h => by rw [Nat.zero_add]; exact h)
  rcases hR with ⟨rfl, rfl, rfl⟩ | ⟨g, c, sp, rfl, h1, h2, h3, rfl⟩
  · simp only [List.nil_append] at hS
    refine s_append0 Aa Ab hS hw hop hx hy (by infer_instance) (xs := rgs [(who, key)]) (hsrc _ (hS.blk 0 rfl)) (by rfl) (by unfold maxLen; omega) ?_
    intro by2 cy2 S2 w' hq1 hq2 hq3 hS2
    exact hk _ _ _ (.inr ⟨by2, cy2, S2, rfl, hq1, hq2, hq3, rfl⟩) (hS2.erase 1)
  · simp only [List.cons_append, List.nil_append] at hS
    refine s_append Aa Ab hS hw hop hx hy (by infer_instance) (by exact at_ 1 rfl) (olds := rgs l) (spare := sp) (by rfl) (rgs_len l) h1 h3 (xs := rgs [(who, key)]) (hsrc _ (hS.blk 0 rfl)) (by rfl) (rgs_one _) (by unfold maxLen at h2 ⊢; omega) rfl ?_
    intro by2 cy2 S2 w' hq1 hq2 hq3 hS2
    have e : l.length + 1 = (l ++ [(who, key)]).length := by rw [List.length_append]; rfl
    refine hk _ [_] _ (.inr ⟨by2, cy2, S2, by rw [e], by rw [← e]; exact hq1, hq2, by rw [← e]; exact hq3, rfl⟩) ?_
    rw [rgs_app]
    exact hS2.erase 1
/-! ### The document's 'with', round by round -/
def withI (l : List Rg) (who key : Int) (k : Nat) (D : Bool) (out : List Rg) : Prop :=
  if D then out = insR (l.take k) who key ∧ ∃ x ∈ l.take k, who ≤ x.1 else out = l.take k ∧ ∀ x ∈ l.take k, x.1 < who
theorem ins_low {l : List Rg} {who key : Int} (h : ∀ x ∈ l, x.1 < who) : insR l who key = l ++ [(who, key)] := by
  unfold insR
  rw [List.filter_eq_self.2 (fun x hx => by simpa using h x hx), List.filter_eq_nil_iff.2 (fun x hx => by have := h x hx; simp; omega)]
theorem ins_snoc {l : List Rg} {who key : Int} {y : Rg} (hy : who < y.1) : insR (l ++ [y]) who key = insR l who key ++ [y] := by
  unfold insR
  rw [List.filter_append, List.filter_append]
  simp [show ¬ y.1 < who by omega, hy]
theorem ins_at {l : List Rg} {who key : Int} {y : Rg} (hy : y.1 = who) : insR (l ++ [y]) who key = insR l who key := by
  unfold insR
  rw [List.filter_append, List.filter_append]
  simp [hy]
theorem ok_take_lt {l : List Rg} (hl : okL l) {k : Nat} (hk : k < l.length) : ∀ x ∈ l.take k, x.1 < (l.getD k (0, 0)).1 := by
  intro x hx
  have h1 : okL (l.take k ++ l.getD k (0, 0) :: l.drop (k + 1)) := by rw [← drop_getD hk, List.take_append_drop]; exact hl
  clear hl hk
  generalize l.take k = A at h1 hx
  induction A with
  | nil => cases hx
  | cons z A ih =>
    rcases List.mem_cons.1 hx with rfl | hx
    · exact okL_lt h1 _ (List.mem_append.2 (.inr (List.mem_cons_self ..)))
    · exact ih (okL_tail h1) hx
theorem withI_step {l : List Rg} {who key : Int} {k : Nat} {D : Bool} {out : List Rg} (hl : okL l) (hk : k < l.length) (h : withI l who key k D out) :
    (D = false ∧ who ≤ (l.getD k (0, 0)).1 → withI l who key (k + 1) true (if (l.getD k (0, 0)).1 = who then out ++ [(who, key)] else out ++ [(who, key)] ++ [l.getD k (0, 0)])) ∧
    (D = true ∨ (l.getD k (0, 0)).1 < who → (l.getD k (0, 0)).1 ≠ who ∧ withI l who key (k + 1) D (out ++ [l.getD k (0, 0)])) := by
  have hlt := ok_take_lt hl hk
  have ht := take_reg hk
  unfold withI at h ⊢
  rw [ht]
  constructor
  · rintro ⟨rfl, hy⟩
    rw [if_neg (by decide)] at h
    obtain ⟨rfl, hlow⟩ := h
    rw [if_pos rfl]
    refine ⟨?_, _, List.mem_append.2 (.inr (List.mem_singleton.2 rfl)), hy⟩
    split
    · next he => rw [ins_at he, ins_low hlow]
    · next he => rw [ins_snoc (by omega), ins_low hlow]
  · intro hD
    cases D with
    | true =>
      rw [if_pos rfl] at h ⊢
      obtain ⟨rfl, x, hx, hwx⟩ := h
      have := hlt x hx
      exact ⟨by omega, (ins_snoc (by omega)).symm, x, List.mem_append.2 (.inl hx), hwx⟩
    | false =>
      rw [if_neg (by decide)] at h ⊢
      obtain ⟨rfl, hlow⟩ := h
      have hy := hD.resolve_left (by decide)
      refine ⟨by omega, rfl, fun x hx => ?_⟩
      rcases List.mem_append.1 hx with hx | hx
      · exact hlow x hx
      · rw [List.mem_singleton.1 hx]; exact hy
end Go.Proofs.Ytkfggilildiflac

namespace Go.Proofs.Ytkfggilildiflac
open Go.ChangeShapes Go.WideShapes Go.ChangeAt Go.RowKit
attribute [local irreducible] wpList wpListIn Oper.quietAt wpM
def u64W (n : Int) : Nat := (n % 18446744073709551616).toNat
/-- An own slice of bytes. -/
def BL (l : List UInt8) (sv : Value) (Lr : List Blk) : Prop := (sv = .slice none 0 0 ∧ l = [] ∧ Lr = []) ∨
  ∃ g c sp, sv = .slice (some ⟨g, 0, none⟩) l.length c ∧ l.length ≤ c ∧ c ≤ maxLen ∧ sp.length = c - l.length ∧ Lr = [(g, (l.map bv ++ sp).toArray, 5)]
def OwnB (B : Nat) (w : World) (sv : Value) (l : List UInt8) : Prop := (sv = .slice none 0 0 ∧ l = []) ∨
  ∃ g c sp, sv = .slice (some ⟨g, 0, none⟩) l.length c ∧ l.length ≤ c ∧ c ≤ maxLen ∧ sp.length = c - l.length ∧ B ≤ g ∧ blk w g = some (.cells (l.map bv ++ sp).toArray 5 (0, 0))
theorem BL.slice {l : List UInt8} {sv : Value} {Lr : List Blk} (h : BL l sv Lr) : ∃ p c, sv = .slice p l.length c := by
  rcases h with ⟨rfl, rfl, _⟩ | ⟨g, c, sp, rfl, _⟩
  · exact ⟨_, _, rfl⟩
  · exact ⟨_, _, rfl⟩
theorem OwnB.slice {B : Nat} {w : World} {l : List UInt8} {sv : Value} (h : OwnB B w sv l) : ∃ p c, sv = .slice p l.length c := by
  rcases h with ⟨rfl, rfl⟩ | ⟨g, c, sp, rfl, _⟩
  · exact ⟨_, _, rfl⟩
  · exact ⟨_, _, rfl⟩
theorem OwnB.join {w0 w w' : World} {L : List Blk} {sv : Value} {l : List UInt8} (h : OwnB w.heap.size w' sv l) (hS : St w0 w L) (hB : Below w.heap.size w w') : ∃ Lr, BL l sv Lr ∧ St w0 w' (Lr ++ L) := by
  rcases h with ⟨rfl, rfl⟩ | ⟨g, c, sp, rfl, h1, h2, h3, h4, h5⟩
  · exact ⟨[], .inl ⟨rfl, rfl, rfl⟩, hS.call hB⟩
  · exact ⟨[_], .inr ⟨g, c, sp, rfl, h1, h2, h3, rfl⟩, Ab.new hS hB h4 h5⟩
theorem BL.own {w0 w : World} {L Lr : List Blk} {sv : Value} {l : List UInt8} (h : BL l sv Lr) (hS : St w0 w L) (hm : ∀ x ∈ Lr, x ∈ L) : OwnB w0.heap.size w sv l := by
  rcases h with ⟨rfl, rfl, rfl⟩ | ⟨g, c, sp, rfl, h1, h2, h3, rfl⟩
  · exact .inl ⟨rfl, rfl⟩
  · have := hS.2.1 _ (hm _ (List.mem_cons_self ..))
    exact .inr ⟨g, c, sp, rfl, h1, h2, h3, this.1, this.2⟩
theorem BL.inn {l : List UInt8} {sv : Value} {Lr L : List Blk} {W0 w : World} (h : BL l sv Lr) (hS : St W0 w L) (hm : ∀ x ∈ Lr, x ∈ L) : BytesAt w sv l := by
  rcases h with ⟨rfl, rfl, rfl⟩ | ⟨g, c, sp, rfl, h1, h2, h3, rfl⟩
  · exact ⟨none, 0, rfl, Nat.le_refl _, fun _ => rfl, fun h => absurd rfl h⟩
  · exact bytesAt_mid (pre := []) (off := 0) (hS.2.1 _ (hm _ (List.mem_cons_self ..))).2 rfl rfl rfl h1
theorem s_appB {ops : Array Oper} {Q : Exit → Act → World → Prop} {o : Oper} {rest : List Oper} {a : Act} {w W0 : World} {l : List UInt8} {sv : Value} {Lr L : List Blk} {z : UInt8} {nb : Nat} {x y : Operand}
    (hS : St W0 w ((nb, #[.int .u8 (z.toNat : Int)], 5) :: (Lr ++ L))) (hR : BL l sv Lr) (hm : l.length ≤ 100000)
    (hw : Region.wanted o (yielded ops a.tmps) = true) (hop : o.op = .call { callee := .builtin .append, args := #[x, y], argTypes := #[76, 76] }) (hx : evO a x = some sv) (hy : evO a y = some (.slice (some ⟨nb, 0, none⟩) 1 1))
    (hk : ∀ sv' Lr' w', BL (l ++ [z]) sv' Lr' → St W0 w' (Lr' ++ L) → wpList Try.prog ops Q rest (a.put o.dst sv') w') : wpList Try.prog ops Q (o :: rest) a w := by
  have hsrc : ∀ (w : World), blk w nb = some (.cells #[.int .u8 (z.toNat : Int)] 5 (0, 0)) → ∀ j v, ([z].map bv)[j]? = some v → w.cell? ((⟨nb, 0, none⟩ : Addr).add j) = some v := fun w hb => src_blk hb (fun j v h => by rw [Nat.zero_add]; exact h)
  rcases hR with ⟨rfl, rfl, rfl⟩ | ⟨g, c, sp, rfl, h1, h2, h3, rfl⟩
  · simp only [List.nil_append] at hS
    refine s_append0 Aa Ab hS hw hop hx hy (by infer_instance) (xs := [z].map bv) (hsrc _ (hS.blk 0 rfl)) (by rfl) (by unfold maxLen; omega) ?_
    intro by2 cy2 S2 w' hq1 hq2 hq3 hS2
    exact hk _ _ _ (.inr ⟨by2, cy2, S2, rfl, hq1, hq2, by rw [hq3, Nat.mul_one]; rfl, rfl⟩) (hS2.erase 1)
  · simp only [List.cons_append, List.nil_append] at hS
    refine s_append Aa Ab hS hw hop hx hy (by infer_instance) (by exact at_ 1 rfl) (olds := l.map bv) (spare := sp) (by rfl) (by rw [List.length_map, Nat.mul_one]) h1 (by rw [h3, Nat.mul_one]) (xs := [z].map bv) (hsrc _ (hS.blk 0 rfl)) (by rfl) (bv_one _) (by unfold maxLen at h2 ⊢; omega) rfl ?_
    intro by2 cy2 S2 w' hq1 hq2 hq3 hS2
    have e : l.length + 1 = (l ++ [z]).length := by rw [List.length_append]; rfl
    refine hk _ [_] _ (.inr ⟨by2, cy2, S2, by rw [e], by rw [← e]; exact hq1, hq2, by rw [← e, hq3, Nat.mul_one], rfl⟩) ?_
    rw [List.map_append]
    exact hS2.erase 1
theorem pow_is : ∀ {i : Nat}, i < 8 → (2 : Int) ^ (8 * i) = ((256 ^ i : Nat) : Int) := by decide
theorem r_shrI {P : Program} {o : Oper} {a : Act} {w : World} {t t' : TypeId} {x y : Operand} {n q m : Int} {i : Nat} (hop : o.op = .binOp .shr t x y t') (hx : evO a x = some (.int .i64 n)) (hy : evO a y = some (.int .i64 m)) (hm : m = 8 * (i : Int)) (hi : i < 8) (hq : n / ((256 ^ i : Nat) : Int) = q) : (execOp a.eval o).run P w = .ok (.value (.int .i64 q)) w := by
  unfold execOp; rw [hop]; subst hq hm
  have e2 : (8 * (i : Int)).toNat = 8 * i := by omega
  have e4 := pow_is hi
  generalize (((256 ^ i : Nat) : Int)) = c at *
  simp [Ct hx, Ct hy, eqGuard, binOp, e2, e4]
theorem r_convQ {P : Program} {o : Oper} {a : Act} {w : World} {s t : TypeId} {x : Operand} {k ks : IntKind} {n : Int} {z : UInt8} (hop : o.op = .convert s t x) (hx : evO a x = some (.int k n)) (hs : IntT P s ks) (ht : IntT P t .u8) (hq : n % 256 = (z.toNat : Int)) : (execOp a.eval o).run P w = .ok (.value (.int .u8 (z.toNat : Int))) w := by
  unfold execOp; rw [hop]
  simp only [Ct hx, convert, Sem.run_bind, run_underlying hs.is, run_underlying ht.is, Result.andThen_ok, Conv.intToInt]
  rw [show IntKind.u8.wrap n = (z.toNat : Int) by rw [IntKind.wrap_u8, hq]]
  rfl
/-- The byte of a number that stands in a place. -/
theorem byte_at (n : Int) {i : Nat} (hi : i < 8) : (n / ((256 ^ i : Nat) : Int)) % 256 = ((UInt8.ofNat (u64W n / 256 ^ i)).toNat : Int) := by
  have h : (UInt8.ofNat (u64W n / 256 ^ i)).toNat = u64W n / 256 ^ i % 256 := by simp
  rw [h]
  unfold u64W
  have : i = 0 ∨ i = 1 ∨ i = 2 ∨ i = 3 ∨ i = 4 ∨ i = 5 ∨ i = 6 ∨ i = 7 := by omega
  rcases this with rfl | rfl | rfl | rfl | rfl | rfl | rfl | rfl <;> simp only [Nat.reducePow] <;> omega
end Go.Proofs.Ytkfggilildiflac

namespace Go.Proofs.Ytkfggilildiflac
open Go.ChangeShapes Go.WideShapes Go.ChangeAt Go.RowKit
attribute [local irreducible] wpList wpListIn Oper.quietAt wpM
theorem beB_get (N : Nat) : ∀ {m k : Nat}, k < m → (beB N m)[k]? = some (UInt8.ofNat (N / 256 ^ (m - 1 - k)))
  | m + 1, 0, _ => by rw [beB_succ]; rfl
  | m + 1, k + 1, h => by
    rw [beB_succ, List.getElem?_cons_succ, beB_get N (show k < m by omega), show m + 1 - 1 - (k + 1) = m - 1 - k by omega]
theorem beB_next (N : Nat) {m k i : Nat} (h : k < m) (hi : m - 1 - k = i) : (beB N m).take (k + 1) = (beB N m).take k ++ [UInt8.ofNat (N / 256 ^ i)] := by
  subst hi
  have h1 := beB_get N h
  have h2 : k < (beB N m).length := by rw [beB_len]; exact h
  rw [List.take_succ_eq_append_getElem h2]
  rw [List.getElem?_eq_getElem h2] at h1
  rw [Option.some.inj h1]
theorem sized_1 (w0 : World) : Calls Try.prog 59 #[.int .i64 1] w0 fun e w' => e = .returned (.bool true) ∧ Below w0.heap.size w0 w' := by
  have hS := St.start w0
  go_enter Try.func59, Try.ntmps59
  repeat' (first | ((with_reducible refine Ad ?_); first | ((first | refine Bn Aa ?_ | refine Bm Aa ?_ | refine Az Aa ?_ | refine Be Aa ?_ | refine Bg Aa ?_ | refine Bv Aa (fun hc => ?_) (fun hc => ?_) | refine Bo Aa ?_) <;> refine Ac ?_)) | ((fail_if_success (with_reducible refine Ad ?_)); first | go_step | go_step3 | rw [Exit.noGoto_normal] | rw [Exit.noGoto_ret] | rw [Exit.noGoto_exit]))
  go_ret
  exact ⟨rfl, hS.below⟩
theorem sized_8 (w0 : World) : Calls Try.prog 59 #[.int .i64 8] w0 fun e w' => e = .returned (.bool true) ∧ Below w0.heap.size w0 w' := by
  have hS := St.start w0
  go_enter Try.func59, Try.ntmps59
  repeat' (first | ((with_reducible refine Ad ?_); first | ((first | refine Bn Aa ?_ | refine Bm Aa ?_ | refine Az Aa ?_ | refine Be Aa ?_ | refine Bg Aa ?_ | refine Bv Aa (fun hc => ?_) (fun hc => ?_) | refine Bo Aa ?_) <;> refine Ac ?_)) | ((fail_if_success (with_reducible refine Ad ?_)); first | go_step | go_step3 | rw [Exit.noGoto_normal] | rw [Exit.noGoto_ret] | rw [Exit.noGoto_exit]))
  go_ret
  exact ⟨rfl, hS.below⟩
set_option maxRecDepth 100000 in
theorem cloneB (v : Value) (l : List UInt8) (hv0 : l = [] → v = .slice none 0 0) (hm : l.length ≤ 100000) (w0 : World) (hv : BytesAt w0 v l) :
    Calls Try.prog 61 #[v] w0 fun e w' => ∃ sv, e = .returned sv ∧ OwnB w0.heap.size w' sv l ∧ Below w0.heap.size w0 w' := by
  have hS := St.start w0
  by_cases hl : l = []
  · obtain rfl := hv0 hl
    subst hl
    go_enter Try.func61, Try.ntmps61
    repeat' (first | ((with_reducible refine Ad ?_); first | ((first | refine Bn Aa ?_ | refine Bm Aa ?_ | refine Az Aa ?_ | refine Be Aa ?_ | refine Bg Aa ?_ | refine Bv Aa (fun hc => ?_) (fun hc => ?_) | refine Aw Aa ?_ | refine Ap Aa ?_ | refine Aj Aa ?_ | refine Bk Aa ?_) <;> refine Ac ?_) | ((first | refine Ba Aa Ab hS ?_ | refine Bd Aa Ab hS ?_); clear hS; intro b w hS; refine Ac ?_)) | ((fail_if_success (with_reducible refine Ad ?_)); first | go_step | go_step3 | rw [Exit.noGoto_normal] | rw [Exit.noGoto_ret] | rw [Exit.noGoto_exit]))
    go_ret
    exact ⟨_, rfl, .inl ⟨rfl, rfl⟩, hS.below⟩
  · obtain ⟨p, c, rfl, hc⟩ := hv.slice
    obtain ⟨_, _, e1, _, _, h3⟩ := id hv
    simp only [Value.slice.injEq] at e1
    obtain ⟨rfl, _, rfl⟩ := e1
    obtain ⟨b1, o1, cs1, t1, f1, rfl, _⟩ := h3 hl
    go_enter Try.func61, Try.ntmps61
    repeat' (first | ((with_reducible refine Ad ?_); first | ((first | refine Bn Aa ?_ | refine Bm Aa ?_ | refine Az Aa ?_ | refine Be Aa ?_ | refine Bg Aa ?_ | refine Bv Aa (fun hc => ?_) (fun hc => ?_) | refine Aw Aa ?_ | refine Ap Aa ?_ | refine Aj Aa ?_ | refine Bk Aa ?_) <;> refine Ac ?_) | ((first | refine Ba Aa Ab hS ?_ | refine Bd Aa Ab hS ?_); clear hS; intro b w hS; refine Ac ?_)) | ((fail_if_success (with_reducible refine Ad ?_)); first | go_step | go_step3 | rw [Exit.noGoto_normal] | rw [Exit.noGoto_ret] | rw [Exit.noGoto_exit]))
    refine s_append Aa Ab hS (by rfl) (by rfl) (by rfl) (by rfl) (by infer_instance) (by exact at_ 0 rfl) (olds := []) (spare := []) (by rfl) (by rfl) (by omega) (by rfl) (hv.below hS.below).srcs (by rw [List.length_map, Nat.mul_one]) (bv_one l) (by unfold maxLen; omega) (Nat.zero_add _) ?_
    clear hS
    intro b' c' sp w' h1 h2 h3 hS
    refine Ac ?_
    repeat' (first | ((with_reducible refine Ad ?_); first | ((first | refine Bn Aa ?_ | refine Bm Aa ?_ | refine Az Aa ?_ | refine Be Aa ?_ | refine Bg Aa ?_ | refine Bv Aa (fun hc => ?_) (fun hc => ?_) | refine Aw Aa ?_ | refine Ap Aa ?_ | refine Aj Aa ?_ | refine Bk Aa ?_) <;> refine Ac ?_) | ((first | refine Ba Aa Ab hS ?_ | refine Bd Aa Ab hS ?_); clear hS; intro b w hS; refine Ac ?_)) | ((fail_if_success (with_reducible refine Ad ?_)); first | go_step | go_step3 | rw [Exit.noGoto_normal] | rw [Exit.noGoto_ret] | rw [Exit.noGoto_exit]))
    go_ret
    exact ⟨_, rfl, .inr ⟨b', c', sp, rfl, h1, h2, by rw [h3, Nat.mul_one], (hS.2.1 _ (List.mem_cons_self ..)).1, hS.blk 0 rfl⟩, hS.below⟩
set_option maxRecDepth 100000 in
theorem growB (l : List UInt8) (sv : Value) (Lr L : List Blk) (hR : BL l sv Lr) (n : Nat) (hn : 0 < n ∧ n ≤ 8) (hm : l.length ≤ 100000) (W0 w0 : World) (hS : St W0 w0 (Lr ++ L)) :
    Calls Try.prog 60 #[sv, .int .i64 (n : Int)] w0 fun e w' => ∃ sv' Lr', e = .returned sv' ∧ BL l sv' Lr' ∧ St W0 w' (Lr' ++ L) := by
  rcases hR with ⟨rfl, rfl, rfl⟩ | ⟨g, c, sp, rfl, h1, h2, h3, rfl⟩
  · simp only [List.nil_append] at hS
    go_enter Try.func60, Try.ntmps60
    repeat' (first | ((with_reducible refine Ad ?_); first | ((first | refine Bn Aa ?_ | refine Bm Aa ?_ | refine Az Aa ?_ | refine Bs Aa ?_ | refine Bx Aa ?_ | refine Br Aa ?_ | refine Be Aa ?_ | refine Bg Aa ?_ | refine Bv Aa (fun hc => ?_) (fun hc => ?_) | refine Ae Aa ?_ | refine Bc Aa ?_ | refine As Aa ?_ | refine Ak Aa ?_) <;> refine Ac ?_)) | ((fail_if_success (with_reducible refine Ad ?_)); first | go_step | go_step3 | rw [Exit.noGoto_normal] | rw [Exit.noGoto_ret] | rw [Exit.noGoto_exit]))
    refine s_appendZ Aa Ab hS (by rfl) (by rfl) (by rfl) (by rfl) (by infer_instance) (by infer_instance) (by exact Try.underlying3) ⟨hn.1, by omega⟩ ?_
    clear hS
    intro b' c' w' k1 k2 hS
    refine Ac ?_
    repeat' (first | ((with_reducible refine Ad ?_); first | ((first | refine Bn Aa ?_ | refine Bm Aa ?_ | refine Az Aa ?_ | refine Bs Aa ?_ | refine Bx Aa ?_ | refine Br Aa ?_ | refine Be Aa ?_ | refine Bg Aa ?_ | refine Bv Aa (fun hc => ?_) (fun hc => ?_) | refine Ae Aa ?_ | refine Bc Aa ?_ | refine As Aa ?_ | refine Ak Aa ?_) <;> refine Ac ?_)) | ((fail_if_success (with_reducible refine Ad ?_)); first | go_step | go_step3 | rw [Exit.noGoto_normal] | rw [Exit.noGoto_ret] | rw [Exit.noGoto_exit]))
    go_ret
    exact ⟨_, _, rfl, .inr ⟨b', c', (zs c').map bv, rfl, by simp, k2, by rw [List.length_map, zs_len]; simp, rfl⟩, hS⟩
  · simp only [List.cons_append, List.nil_append] at hS
    have h2' := h2
    unfold maxLen at h2'
    by_cases hroom : n ≤ c - l.length
    · go_enter Try.func60, Try.ntmps60
      repeat' (first | ((with_reducible refine Ad ?_); first | ((first | refine Bn Aa ?_ | refine Bm Aa ?_ | refine Az Aa ?_ | refine Bs Aa ?_ | refine Bx Aa ?_ | refine Br Aa ?_ | refine Be Aa ?_ | refine Bg Aa ?_ | refine Bv Aa (fun hc => ?_) (fun hc => ?_) | refine Ae Aa ?_ | refine Bc Aa ?_ | refine As Aa ?_ | refine Ak Aa ?_) <;> refine Ac ?_)) | ((fail_if_success (with_reducible refine Ad ?_)); first | go_step | go_step3 | rw [Exit.noGoto_normal] | rw [Exit.noGoto_ret] | rw [Exit.noGoto_exit]))
      go_ret
      exact ⟨_, _, rfl, .inr ⟨g, c, sp, rfl, h1, h2, h3, rfl⟩, hS⟩
    · go_enter Try.func60, Try.ntmps60
      repeat' (first | ((with_reducible refine Ad ?_); first | ((first | refine Bn Aa ?_ | refine Bm Aa ?_ | refine Az Aa ?_ | refine Bs Aa ?_ | refine Bx Aa ?_ | refine Br Aa ?_ | refine Be Aa ?_ | refine Bg Aa ?_ | refine Bv Aa (fun hc => ?_) (fun hc => ?_) | refine Ae Aa ?_ | refine Bc Aa ?_ | refine As Aa ?_ | refine Ak Aa ?_) <;> refine Ac ?_)) | ((fail_if_success (with_reducible refine Ad ?_)); first | go_step | go_step3 | rw [Exit.noGoto_normal] | rw [Exit.noGoto_ret] | rw [Exit.noGoto_exit]))
      obtain ⟨k, hk⟩ : ∃ k : Nat, (n : Int) - ((c : Int) - (l.length : Int)) = (k : Int) := ⟨n - (c - l.length), by omega⟩
      rw [hk]
      refine s_appendZG Aa Ab hS (by rfl) (by rfl) (by rfl) (by rfl) (by infer_instance) (by infer_instance) (by exact at_ 0 rfl) (olds := l.map bv ++ sp) (post := []) (by simp) (by rw [List.length_append, List.length_map, h3]; omega) (k := k) (by omega) (by omega) (by omega) rfl ?_
      clear hS
      intro b' c' rest' w' k1 k2 k3 hS
      have k2' := k2
      unfold maxLen at k2'
      refine Ac ?_
      repeat' (first | ((with_reducible refine Ad ?_); first | ((first | refine Bn Aa ?_ | refine Bm Aa ?_ | refine Az Aa ?_ | refine Bs Aa ?_ | refine Bx Aa ?_ | refine Br Aa ?_ | refine Be Aa ?_ | refine Bg Aa ?_ | refine Bv Aa (fun hc => ?_) (fun hc => ?_) | refine Ae Aa ?_ | refine Bc Aa ?_ | refine As Aa ?_ | refine Ak Aa ?_) <;> refine Ac ?_)) | ((fail_if_success (with_reducible refine Ad ?_)); first | go_step | go_step3 | rw [Exit.noGoto_normal] | rw [Exit.noGoto_ret] | rw [Exit.noGoto_exit]))
      go_ret
      refine ⟨_, [_], rfl, .inr ⟨b', c', sp ++ rest', rfl, by omega, k2, by rw [List.length_append, h3, k3]; omega, rfl⟩, ?_⟩
      rw [← List.append_assoc]
      exact hS.erase 1
set_option maxRecDepth 100000 in
set_option maxHeartbeats 4000000 in
theorem put_8 (l : List UInt8) (v : Value) (hv0 : l = [] → v = .slice none 0 0) (hm : l.length ≤ 1000) (n : Int) (w0 : World) (hv : BytesAt w0 v l) :
    Calls Try.prog 45 #[v, .int .i64 8, .int .i64 n] w0 fun e w' => ∃ sv, e = .returned (.tuple #[sv, .nilIface]) ∧ OwnB w0.heap.size w' sv (l ++ beB (u64W n) 8) ∧ Below w0.heap.size w0 w' := by
  have hS := St.start w0
  have hb8 : (beB (u64W n) 8).length = 8 := beB_len _ _
  go_enter Try.func45, Try.ntmps45
  repeat' (first | ((with_reducible refine Ad ?_); first | ((first | refine Bn Aa ?_ | refine Bm Aa ?_ | refine Az Aa ?_ | refine Br Aa ?_ | refine g_mul Aa ?_ | refine Be Aa ?_ | refine Bg Aa ?_ | refine Bv Aa (fun hc => ?_) (fun hc => ?_) | refine Ae Aa ?_ | refine Bp Aa ?_ | refine Bo Aa ?_ | refine Bu Aa ?_ | refine Bk Aa ?_) <;> refine Ac ?_) | ((first | refine Ba Aa Ab hS ?_ | refine Bd Aa Ab hS ?_); clear hS; intro b w hS; refine Ac ?_) | (refine Cb Aa Ab hS (sized_8 _) ?_; clear hS; intro w hS; refine Ac ?_)) | ((fail_if_success (with_reducible refine Ad ?_)); first | go_step | go_step3 | rw [Exit.noGoto_normal] | rw [Exit.noGoto_ret] | rw [Exit.noGoto_exit]))
  refine s_call Aa (by rfl) (by rfl) (by rfl) (by rfl) (by rfl) (by infer_instance) (cloneB v l hv0 (by omega) _ (hv.below hS.below)) ?_
  rintro e w1 ⟨sv, rfl, ho, hB⟩
  refine ⟨_, rfl, ?_⟩
  refine Ac ?_
  obtain ⟨Lr, hR, hS2⟩ := ho.join hS hB
  replace hS := hS2
  clear hS2 ho hB
  repeat' (first | ((with_reducible refine Ad ?_); first | ((first | refine Bn Aa ?_ | refine Bm Aa ?_ | refine Az Aa ?_ | refine Br Aa ?_ | refine g_mul Aa ?_ | refine Be Aa ?_ | refine Bg Aa ?_ | refine Bv Aa (fun hc => ?_) (fun hc => ?_) | refine Ae Aa ?_ | refine Bp Aa ?_ | refine Bo Aa ?_ | refine Bu Aa ?_ | refine Bk Aa ?_) <;> refine Ac ?_) | ((first | refine Ba Aa Ab hS ?_ | refine Bd Aa Ab hS ?_); clear hS; intro b w hS; refine Ac ?_)) | ((fail_if_success (with_reducible refine Ad ?_)); first | go_step | go_step3 | rw [Exit.noGoto_normal] | rw [Exit.noGoto_ret] | rw [Exit.noGoto_exit]))
  refine s_call Aa (by rfl) (by rfl) (by rfl) (by rfl) (by rfl) (by infer_instance) (growB l sv Lr [] hR 8 (by omega) (by omega) _ _ hS) ?_
  rintro e w2 ⟨sv2, Lr2, rfl, hR2, hS2⟩
  refine ⟨_, rfl, ?_⟩
  refine Ac ?_
  replace hS := hS2
  clear hS2 hR
  repeat' (first | ((with_reducible refine Ad ?_); first | ((first | refine Bn Aa ?_ | refine Bm Aa ?_ | refine Az Aa ?_ | refine Br Aa ?_ | refine g_mul Aa ?_ | refine Be Aa ?_ | refine Bg Aa ?_ | refine Bv Aa (fun hc => ?_) (fun hc => ?_) | refine Ae Aa ?_ | refine Bp Aa ?_ | refine Bo Aa ?_ | refine Bu Aa ?_ | refine Bk Aa ?_) <;> refine Ac ?_) | ((first | refine Ba Aa Ab hS ?_ | refine Bd Aa Ab hS ?_); clear hS; intro b w hS; refine Ac ?_)) | ((fail_if_success (with_reducible refine Ad ?_)); first | go_step | go_step3 | rw [Exit.noGoto_normal] | rw [Exit.noGoto_ret] | rw [Exit.noGoto_exit]))
  go_loopw [8, 9] (fun u8 u9 wr => ∃ (k : Nat) (Lr : List Blk), k ≤ 8 ∧ u9 = .int .i64 (7 - (k : Int)) ∧ BL (l ++ (beB (u64W n) 8).take k) u8 Lr ∧ St w0 wr Lr) (fun _ u9 _ => (intOf u9 + 1).toNat)
  case atStart => exact ⟨0, Lr2, by omega, rfl, by rw [List.take_zero, List.append_nil]; exact hR2, by rwa [List.append_nil] at hS⟩
  case round =>
    obtain ⟨k, Lr, hk, rfl, hR, hS⟩ := hrel
    obtain ⟨p2, c2, rfl⟩ := hR.slice
    have hll : (l ++ (beB (u64W n) 8).take k).length ≤ 2000 := by rw [List.length_append, List.length_take]; omega
    by_cases hlt : k < 8
    · obtain ⟨i, hi⟩ : ∃ i : Nat, 7 - (k : Int) = (i : Int) := ⟨7 - k, by omega⟩
      rw [hi]
      have hi8 : i < 8 := by omega
      have hby := byte_at n hi8
      obtain ⟨q, hq⟩ : ∃ q, n / ((256 ^ i : Nat) : Int) = q := ⟨_, rfl⟩
      rw [hq] at hby
      repeat' (first | ((with_reducible refine Ad ?_); first | ((first | refine Bn Aa ?_ | refine Bm Aa ?_ | refine Az Aa ?_ | refine Br Aa ?_ | refine g_mul Aa ?_ | refine Be Aa ?_ | refine Bg Aa ?_ | refine Bv Aa (fun hc => ?_) (fun hc => ?_) | refine Ae Aa ?_ | refine Bp Aa ?_ | refine Bo Aa ?_ | refine Bu Aa ?_ | refine Bk Aa ?_) <;> refine Ac ?_) | ((first | refine Ba Aa Ab hS ?_ | refine Bd Aa Ab hS ?_); clear hS; intro b w hS; refine Ac ?_) | (refine Stp.go Aa (by rfl) (by rfl) (r_shrI (by rfl) (by rfl) (by rfl) (by first | rfl | omega) hi8 hq) ?_; refine Ac ?_) | (refine Stp.go Aa (by rfl) (by rfl) (r_convQ (by rfl) (by rfl) (by infer_instance) (by infer_instance) hby) ?_; refine Ac ?_)) | ((fail_if_success (with_reducible refine Ad ?_)); first | go_step | go_step3 | rw [Exit.noGoto_normal] | rw [Exit.noGoto_ret] | rw [Exit.noGoto_exit]))
      refine s_appB (L := []) (z := UInt8.ofNat (u64W n / 256 ^ i)) (by rwa [List.append_nil]) hR (by omega) (by rfl) (by rfl) (by rfl) (by rfl) ?_
      intro sv' Lr' w' hR' hS'
      rw [List.append_nil] at hS'
      rw [List.append_assoc, ← beB_next (m := 8) (u64W n) hlt (by omega)] at hR'
      obtain ⟨p3, c3, rfl⟩ := hR'.slice
      refine Ac ?_
      replace hS := hS'
      clear hS' hR
      repeat' (first | ((with_reducible refine Ad ?_); first | ((first | refine Bn Aa ?_ | refine Bm Aa ?_ | refine Az Aa ?_ | refine Br Aa ?_ | refine g_mul Aa ?_ | refine Be Aa ?_ | refine Bg Aa ?_ | refine Bv Aa (fun hc => ?_) (fun hc => ?_) | refine Ae Aa ?_ | refine Bp Aa ?_ | refine Bo Aa ?_ | refine Bu Aa ?_ | refine Bk Aa ?_) <;> refine Ac ?_) | ((first | refine Ba Aa Ab hS ?_ | refine Bd Aa Ab hS ?_); clear hS; intro b w hS; refine Ac ?_)) | ((fail_if_success (with_reducible refine Ad ?_)); first | go_step | go_step3 | rw [Exit.noGoto_normal] | rw [Exit.noGoto_ret] | rw [Exit.noGoto_exit]))
      go_roundw
      case rel => exact ⟨k + 1, Lr', by omega, by rw [← hi]; push_cast; congr 1; omega, hR', hS⟩
      case measure => first | (simp [intOf]; done) | (simp [intOf]; omega)
    · obtain rfl : k = 8 := by omega
      rw [List.take_of_length_le (by omega)] at hR hll ⊢
      repeat' (first | ((with_reducible refine Ad ?_); first | ((first | refine Bn Aa ?_ | refine Bm Aa ?_ | refine Az Aa ?_ | refine Br Aa ?_ | refine g_mul Aa ?_ | refine Be Aa ?_ | refine Bg Aa ?_ | refine Bv Aa (fun hc => ?_) (fun hc => ?_) | refine Ae Aa ?_ | refine Bp Aa ?_ | refine Bo Aa ?_ | refine Bu Aa ?_ | refine Bk Aa ?_) <;> refine Ac ?_) | ((first | refine Ba Aa Ab hS ?_ | refine Bd Aa Ab hS ?_); clear hS; intro b w hS; refine Ac ?_)) | ((fail_if_success (with_reducible refine Ad ?_)); first | go_step | go_step3 | rw [Exit.noGoto_normal] | rw [Exit.noGoto_ret] | rw [Exit.noGoto_exit]))
      go_ret2
      exact ⟨_, rfl, hR.own hS (fun x hx => hx), hS.below⟩
end Go.Proofs.Ytkfggilildiflac

namespace Go.Proofs.Ytkfggilildiflac
open Go.ChangeShapes Go.WideShapes Go.ChangeAt Go.RowKit
attribute [local irreducible] wpList wpListIn Oper.quietAt wpM
set_option maxRecDepth 100000 in
set_option maxHeartbeats 4000000 in
theorem put_1 (l : List UInt8) (v : Value) (hv0 : l = [] → v = .slice none 0 0) (hm : l.length ≤ 1000) (n : Int) (hn : 0 ≤ n ∧ n ≤ 255) (w0 : World) (hv : BytesAt w0 v l) :
    Calls Try.prog 45 #[v, .int .i64 1, .int .i64 n] w0 fun e w' => ∃ sv, e = .returned (.tuple #[sv, .nilIface]) ∧ OwnB w0.heap.size w' sv (l ++ beB (u64W n) 1) ∧ Below w0.heap.size w0 w' := by
  have hS := St.start w0
  have hb8 : (beB (u64W n) 1).length = 1 := beB_len _ _
  go_enter Try.func45, Try.ntmps45
  repeat' (first | ((with_reducible refine Ad ?_); first | ((first | refine Bn Aa ?_ | refine Bm Aa ?_ | refine Az Aa ?_ | refine Br Aa ?_ | refine g_mul Aa ?_ | refine Be Aa ?_ | refine Bg Aa ?_ | refine Bv Aa (fun hc => ?_) (fun hc => ?_) | refine Ae Aa ?_ | refine Bp Aa ?_ | refine Bo Aa ?_ | refine Bu Aa ?_ | refine Bk Aa ?_) <;> refine Ac ?_) | ((first | refine Ba Aa Ab hS ?_ | refine Bd Aa Ab hS ?_); clear hS; intro b w hS; refine Ac ?_) | (refine Cb Aa Ab hS (sized_1 _) ?_; clear hS; intro w hS; refine Ac ?_) | (refine Stp.go Aa (by rfl) (by rfl) (r_shrI (i := 1) (by rfl) (by rfl) (by rfl) (by first | rfl | omega) (by decide) (show n / ((256 ^ 1 : Nat) : Int) = 0 by simp only [Nat.reducePow]; omega)) ?_; refine Ac ?_)) | ((fail_if_success (with_reducible refine Ad ?_)); first | go_step | go_step3 | rw [Exit.noGoto_normal] | rw [Exit.noGoto_ret] | rw [Exit.noGoto_exit]))
  refine s_call Aa (by rfl) (by rfl) (by rfl) (by rfl) (by rfl) (by infer_instance) (cloneB v l hv0 (by omega) _ (hv.below hS.below)) ?_
  rintro e w1 ⟨sv, rfl, ho, hB⟩
  refine ⟨_, rfl, ?_⟩
  refine Ac ?_
  obtain ⟨Lr, hR, hS2⟩ := ho.join hS hB
  replace hS := hS2
  clear hS2 ho hB
  repeat' (first | ((with_reducible refine Ad ?_); first | ((first | refine Bn Aa ?_ | refine Bm Aa ?_ | refine Az Aa ?_ | refine Br Aa ?_ | refine g_mul Aa ?_ | refine Be Aa ?_ | refine Bg Aa ?_ | refine Bv Aa (fun hc => ?_) (fun hc => ?_) | refine Ae Aa ?_ | refine Bp Aa ?_ | refine Bo Aa ?_ | refine Bu Aa ?_ | refine Bk Aa ?_) <;> refine Ac ?_) | ((first | refine Ba Aa Ab hS ?_ | refine Bd Aa Ab hS ?_); clear hS; intro b w hS; refine Ac ?_)) | ((fail_if_success (with_reducible refine Ad ?_)); first | go_step | go_step3 | rw [Exit.noGoto_normal] | rw [Exit.noGoto_ret] | rw [Exit.noGoto_exit]))
  refine s_call Aa (by rfl) (by rfl) (by rfl) (by rfl) (by rfl) (by infer_instance) (growB l sv Lr [] hR 1 (by omega) (by omega) _ _ hS) ?_
  rintro e w2 ⟨sv2, Lr2, rfl, hR2, hS2⟩
  refine ⟨_, rfl, ?_⟩
  refine Ac ?_
  replace hS := hS2
  clear hS2 hR
  repeat' (first | ((with_reducible refine Ad ?_); first | ((first | refine Bn Aa ?_ | refine Bm Aa ?_ | refine Az Aa ?_ | refine Br Aa ?_ | refine g_mul Aa ?_ | refine Be Aa ?_ | refine Bg Aa ?_ | refine Bv Aa (fun hc => ?_) (fun hc => ?_) | refine Ae Aa ?_ | refine Bp Aa ?_ | refine Bo Aa ?_ | refine Bu Aa ?_ | refine Bk Aa ?_) <;> refine Ac ?_) | ((first | refine Ba Aa Ab hS ?_ | refine Bd Aa Ab hS ?_); clear hS; intro b w hS; refine Ac ?_)) | ((fail_if_success (with_reducible refine Ad ?_)); first | go_step | go_step3 | rw [Exit.noGoto_normal] | rw [Exit.noGoto_ret] | rw [Exit.noGoto_exit]))
  go_loopw [8, 9] (fun u8 u9 wr => ∃ (k : Nat) (Lr : List Blk), k ≤ 1 ∧ u9 = .int .i64 (0 - (k : Int)) ∧ BL (l ++ (beB (u64W n) 1).take k) u8 Lr ∧ St w0 wr Lr) (fun _ u9 _ => (intOf u9 + 1).toNat)
  case atStart => exact ⟨0, Lr2, by omega, rfl, by rw [List.take_zero, List.append_nil]; exact hR2, by rwa [List.append_nil] at hS⟩
  case round =>
    obtain ⟨k, Lr, hk, rfl, hR, hS⟩ := hrel
    obtain ⟨p2, c2, rfl⟩ := hR.slice
    have hll : (l ++ (beB (u64W n) 1).take k).length ≤ 2000 := by rw [List.length_append, List.length_take]; omega
    by_cases hlt : k < 1
    · obtain ⟨i, hi⟩ : ∃ i : Nat, 0 - (k : Int) = (i : Int) := ⟨0 - k, by omega⟩
      rw [hi]
      have hi8 : i < 8 := by omega
      have hby := byte_at n hi8
      obtain ⟨q, hq⟩ : ∃ q, n / ((256 ^ i : Nat) : Int) = q := ⟨_, rfl⟩
      rw [hq] at hby
      repeat' (first | ((with_reducible refine Ad ?_); first | ((first | refine Bn Aa ?_ | refine Bm Aa ?_ | refine Az Aa ?_ | refine Br Aa ?_ | refine g_mul Aa ?_ | refine Be Aa ?_ | refine Bg Aa ?_ | refine Bv Aa (fun hc => ?_) (fun hc => ?_) | refine Ae Aa ?_ | refine Bp Aa ?_ | refine Bo Aa ?_ | refine Bu Aa ?_ | refine Bk Aa ?_) <;> refine Ac ?_) | ((first | refine Ba Aa Ab hS ?_ | refine Bd Aa Ab hS ?_); clear hS; intro b w hS; refine Ac ?_) | (refine Stp.go Aa (by rfl) (by rfl) (r_shrI (by rfl) (by rfl) (by rfl) (by first | rfl | omega) hi8 hq) ?_; refine Ac ?_) | (refine Stp.go Aa (by rfl) (by rfl) (r_convQ (by rfl) (by rfl) (by infer_instance) (by infer_instance) hby) ?_; refine Ac ?_)) | ((fail_if_success (with_reducible refine Ad ?_)); first | go_step | go_step3 | rw [Exit.noGoto_normal] | rw [Exit.noGoto_ret] | rw [Exit.noGoto_exit]))
      refine s_appB (L := []) (z := UInt8.ofNat (u64W n / 256 ^ i)) (by rwa [List.append_nil]) hR (by omega) (by rfl) (by rfl) (by rfl) (by rfl) ?_
      intro sv' Lr' w' hR' hS'
      rw [List.append_nil] at hS'
      rw [List.append_assoc, ← beB_next (m := 1) (u64W n) hlt (by omega)] at hR'
      obtain ⟨p3, c3, rfl⟩ := hR'.slice
      refine Ac ?_
      replace hS := hS'
      clear hS' hR
      repeat' (first | ((with_reducible refine Ad ?_); first | ((first | refine Bn Aa ?_ | refine Bm Aa ?_ | refine Az Aa ?_ | refine Br Aa ?_ | refine g_mul Aa ?_ | refine Be Aa ?_ | refine Bg Aa ?_ | refine Bv Aa (fun hc => ?_) (fun hc => ?_) | refine Ae Aa ?_ | refine Bp Aa ?_ | refine Bo Aa ?_ | refine Bu Aa ?_ | refine Bk Aa ?_) <;> refine Ac ?_) | ((first | refine Ba Aa Ab hS ?_ | refine Bd Aa Ab hS ?_); clear hS; intro b w hS; refine Ac ?_)) | ((fail_if_success (with_reducible refine Ad ?_)); first | go_step | go_step3 | rw [Exit.noGoto_normal] | rw [Exit.noGoto_ret] | rw [Exit.noGoto_exit]))
      go_roundw
      case rel => exact ⟨k + 1, Lr', by omega, by rw [← hi]; push_cast; congr 1; omega, hR', hS⟩
      case measure => first | (simp [intOf]; done) | (simp [intOf]; omega)
    · obtain rfl : k = 1 := by omega
      rw [List.take_of_length_le (by omega)] at hR hll ⊢
      repeat' (first | ((with_reducible refine Ad ?_); first | ((first | refine Bn Aa ?_ | refine Bm Aa ?_ | refine Az Aa ?_ | refine Br Aa ?_ | refine g_mul Aa ?_ | refine Be Aa ?_ | refine Bg Aa ?_ | refine Bv Aa (fun hc => ?_) (fun hc => ?_) | refine Ae Aa ?_ | refine Bp Aa ?_ | refine Bo Aa ?_ | refine Bu Aa ?_ | refine Bk Aa ?_) <;> refine Ac ?_) | ((first | refine Ba Aa Ab hS ?_ | refine Bd Aa Ab hS ?_); clear hS; intro b w hS; refine Ac ?_)) | ((fail_if_success (with_reducible refine Ad ?_)); first | go_step | go_step3 | rw [Exit.noGoto_normal] | rw [Exit.noGoto_ret] | rw [Exit.noGoto_exit]))
      go_ret2
      exact ⟨_, rfl, hR.own hS (fun x hx => hx), hS.below⟩
end Go.Proofs.Ytkfggilildiflac

namespace Go.Proofs.Ytkfggilildiflac
open Go.ChangeShapes Go.WideShapes Go.ChangeAt Go.RowKit
attribute [local irreducible] wpList wpListIn Oper.quietAt wpM
theorem r_convV {P : Program} {o : Oper} {a : Act} {w : World} {s t : TypeId} {x : Operand} {k ks : IntKind} {n : Int} {u : Nat} (hop : o.op = .convert s t x) (hx : evO a x = some (.int k n)) (hs : IntT P s ks) (ht : IntT P t .u64) (hu : (n % 18446744073709551616).toNat = u) : (execOp a.eval o).run P w = .ok (.value (.int .u64 (u : Int))) w := by
  unfold execOp; rw [hop]
  simp only [Ct hx, convert, Sem.run_bind, run_underlying hs.is, run_underlying ht.is, Result.andThen_ok, Conv.intToInt]
  rw [show IntKind.u64.wrap n = (u : Int) by rw [IntKind.wrap_u64]; omega]
  rfl
set_option maxRecDepth 100000 in
set_option maxHeartbeats 4000000 in
theorem num_8 (n : Int) (w0 : World) :
    Calls Try.prog 47 #[.int .i64 8, .int .i64 n] w0 fun e w' => ∃ sv, e = .returned (.tuple #[sv, .int .i64 0]) ∧ OwnB w0.heap.size w' sv (beB (u64W n) 8) ∧ Below w0.heap.size w0 w' := by
  have hS := St.start w0
  obtain ⟨N, hN⟩ : ∃ N, (n % 18446744073709551616).toNat = N := ⟨_, rfl⟩
  have hNlt : N < 18446744073709551616 := by omega
  rw [show u64W n = N from hN]
  go_enter Try.func47, Try.ntmps47
  repeat' (first | ((with_reducible refine Ad ?_); first | (refine Stp.go Aa (by rfl) (by rfl) (r_convV (by rfl) (by rfl) (by infer_instance) (by infer_instance) hN) ?_; refine Ac ?_) | ((first | refine Bn Aa ?_ | refine Bm Aa ?_ | refine Az Aa ?_ | refine Bw Aa ?_ | refine g_quo Aa ?_ | refine g_rem Aa ?_ | refine Be Aa ?_ | refine Bg Aa ?_ | refine Bv Aa (fun hc => ?_) (fun hc => ?_) | refine Bp Aa ?_ | refine Bo Aa ?_ | refine Bk Aa ?_) <;> refine Ac ?_) | ((first | refine Ba Aa Ab hS ?_ | refine Bd Aa Ab hS ?_); clear hS; intro b w hS; refine Ac ?_)) | ((fail_if_success (with_reducible refine Ad ?_)); first | go_step | go_step3 | rw [Exit.noGoto_normal] | rw [Exit.noGoto_ret] | rw [Exit.noGoto_exit]))
  go_loopw [6, 7, 8] (fun u6 u7 u8 wr => ∃ (k : Nat) (Lr : List Blk), k ≤ 8 ∧ u8 = .int .i64 (k : Int) ∧ u6 = .int .u64 ((N / 256 ^ k : Nat) : Int) ∧ BL (beB N k) u7 Lr ∧ St w0 wr Lr) (fun _ _ u8 _ => 8 - (intOf u8).toNat)
  case atStart => exact ⟨0, [], by omega, rfl, by simp, .inl ⟨rfl, beB_zero N, rfl⟩, hS⟩
  case round =>
    obtain ⟨k, Lr, hk, rfl, rfl, hR, hS⟩ := hrel
    by_cases hlt : k < 8
    · obtain ⟨M, hM⟩ : ∃ M, N / 256 ^ k = M := ⟨_, rfl⟩
      have hMlt : M < 18446744073709551616 := by rw [← hM]; exact Nat.lt_of_le_of_lt (Nat.div_le_self _ _) hNlt
      have hM2 : N / 256 ^ (k + 1) = M / 256 := by rw [← hM, Nat.pow_succ, Nat.div_div_eq_div_mul]
      have hbe : beB N (k + 1) = UInt8.ofNat M :: beB N k := by rw [beB_succ, hM]
      have hz : ((M : Int) % 256) % 256 = ((UInt8.ofNat M).toNat : Int) := by
        have : (UInt8.ofNat M).toNat = M % 256 := by simp
        rw [this]; omega
      have hl : (beB N k).length = k := beB_len _ _
      rw [hM]
      repeat' (first | ((with_reducible refine Ad ?_); first | ((first | refine Bn Aa ?_ | refine Bm Aa ?_ | refine Az Aa ?_ | refine Bw Aa ?_ | refine g_quo Aa ?_ | refine g_rem Aa ?_ | refine Be Aa ?_ | refine Bg Aa ?_ | refine Bv Aa (fun hc => ?_) (fun hc => ?_) | refine Bp Aa ?_ | refine Bo Aa ?_ | refine Bk Aa ?_) <;> refine Ac ?_) | ((first | refine Ba Aa Ab hS ?_ | refine Bd Aa Ab hS ?_); clear hS; intro b w hS; refine Ac ?_) | (refine Stp.go Aa (by rfl) (by rfl) (r_convQ (by rfl) (by rfl) (by infer_instance) (by infer_instance) hz) ?_; refine Ac ?_)) | ((fail_if_success (with_reducible refine Ad ?_)); first | go_step | go_step3 | rw [Exit.noGoto_normal] | rw [Exit.noGoto_ret] | rw [Exit.noGoto_exit]))
      rcases hR with ⟨rfl, e0, rfl⟩ | ⟨g, c, sp, rfl, h1, h2, h3, rfl⟩
      · refine Stp.go Aa (by rfl) (by rfl) (r_appendN (by rfl) (by rfl) (by rfl) (by infer_instance) (Nat.le_refl _)) ?_
        refine Ac ?_
        repeat' (first | ((with_reducible refine Ad ?_); first | ((first | refine Bn Aa ?_ | refine Bm Aa ?_ | refine Az Aa ?_ | refine Bw Aa ?_ | refine g_quo Aa ?_ | refine g_rem Aa ?_ | refine Be Aa ?_ | refine Bg Aa ?_ | refine Bv Aa (fun hc => ?_) (fun hc => ?_) | refine Bp Aa ?_ | refine Bo Aa ?_ | refine Bk Aa ?_) <;> refine Ac ?_) | ((first | refine Ba Aa Ab hS ?_ | refine Bd Aa Ab hS ?_); clear hS; intro b w hS; refine Ac ?_)) | ((fail_if_success (with_reducible refine Ad ?_)); first | go_step | go_step3 | rw [Exit.noGoto_normal] | rw [Exit.noGoto_ret] | rw [Exit.noGoto_exit]))
        go_roundw
        case rel => exact ⟨k + 1, _, by omega, by push_cast; rfl, by rw [hM2]; push_cast; rfl, by rw [hbe, e0]; exact .inr ⟨_, 1, [], rfl, Nat.le_refl _, by decide, rfl, rfl⟩, hS⟩
        case measure => first | (simp [intOf]; done) | (simp [intOf]; omega)
      · have h2' := h2
        unfold maxLen at h2'
        refine s_append Aa Ab hS (by rfl) (by rfl) (by rfl) (by rfl) (by infer_instance) (by exact at_ 0 rfl) (olds := [UInt8.ofNat M].map bv) (spare := []) (by rfl) (by rfl) (Nat.le_refl _) (by rfl) (bytesAt_mid (pre := []) (off := 0) (hS.blk 1 rfl) rfl rfl rfl h1).srcs (by rw [List.length_map, Nat.mul_one]) (bv_one _) (by unfold maxLen; omega) rfl ?_
        clear hS
        intro b' c' sp' w' k1 k2 k3 hS
        refine Ac ?_
        repeat' (first | ((with_reducible refine Ad ?_); first | ((first | refine Bn Aa ?_ | refine Bm Aa ?_ | refine Az Aa ?_ | refine Bw Aa ?_ | refine g_quo Aa ?_ | refine g_rem Aa ?_ | refine Be Aa ?_ | refine Bg Aa ?_ | refine Bv Aa (fun hc => ?_) (fun hc => ?_) | refine Bp Aa ?_ | refine Bo Aa ?_ | refine Bk Aa ?_) <;> refine Ac ?_) | ((first | refine Ba Aa Ab hS ?_ | refine Bd Aa Ab hS ?_); clear hS; intro b w hS; refine Ac ?_)) | ((fail_if_success (with_reducible refine Ad ?_)); first | go_step | go_step3 | rw [Exit.noGoto_normal] | rw [Exit.noGoto_ret] | rw [Exit.noGoto_exit]))
        go_roundw
        case rel => exact ⟨k + 1, [_], by omega, by push_cast; rfl, by rw [hM2]; push_cast; rfl, by rw [hbe]; exact .inr ⟨b', c', sp', by rw [List.length_cons, Nat.add_comm], by rw [List.length_cons]; omega, k2, by rw [List.length_cons]; omega, rfl⟩, hS.take 1⟩
        case measure => first | (simp [intOf]; done) | (simp [intOf]; omega)
    · obtain rfl : k = 8 := by omega
      repeat' (first | ((with_reducible refine Ad ?_); first | ((first | refine Bn Aa ?_ | refine Bm Aa ?_ | refine Az Aa ?_ | refine Bw Aa ?_ | refine g_quo Aa ?_ | refine g_rem Aa ?_ | refine Be Aa ?_ | refine Bg Aa ?_ | refine Bv Aa (fun hc => ?_) (fun hc => ?_) | refine Bp Aa ?_ | refine Bo Aa ?_ | refine Bk Aa ?_) <;> refine Ac ?_) | ((first | refine Ba Aa Ab hS ?_ | refine Bd Aa Ab hS ?_); clear hS; intro b w hS; refine Ac ?_)) | ((fail_if_success (with_reducible refine Ad ?_)); first | go_step | go_step3 | rw [Exit.noGoto_normal] | rw [Exit.noGoto_ret] | rw [Exit.noGoto_exit]))
      go_ret2
      exact ⟨_, rfl, hR.own hS (fun x hx => hx), hS.below⟩
set_option maxRecDepth 100000 in
set_option maxHeartbeats 4000000 in
theorem num_1 (n : Int) (hn : 0 ≤ n ∧ n ≤ 255) (w0 : World) :
    Calls Try.prog 47 #[.int .i64 1, .int .i64 n] w0 fun e w' => ∃ sv, e = .returned (.tuple #[sv, .int .i64 0]) ∧ OwnB w0.heap.size w' sv (beB (u64W n) 1) ∧ Below w0.heap.size w0 w' := by
  have hS := St.start w0
  obtain ⟨N, hN⟩ : ∃ N, (n % 18446744073709551616).toNat = N := ⟨_, rfl⟩
  have hNlt : N < 18446744073709551616 := by omega
  rw [show u64W n = N from hN]
  go_enter Try.func47, Try.ntmps47
  repeat' (first | ((with_reducible refine Ad ?_); first | (refine Stp.go Aa (by rfl) (by rfl) (r_convV (by rfl) (by rfl) (by infer_instance) (by infer_instance) hN) ?_; refine Ac ?_) | ((first | refine Bn Aa ?_ | refine Bm Aa ?_ | refine Az Aa ?_ | refine Bw Aa ?_ | refine g_quo Aa ?_ | refine g_rem Aa ?_ | refine Be Aa ?_ | refine Bg Aa ?_ | refine Bv Aa (fun hc => ?_) (fun hc => ?_) | refine Bp Aa ?_ | refine Bo Aa ?_ | refine Bk Aa ?_) <;> refine Ac ?_) | ((first | refine Ba Aa Ab hS ?_ | refine Bd Aa Ab hS ?_); clear hS; intro b w hS; refine Ac ?_)) | ((fail_if_success (with_reducible refine Ad ?_)); first | go_step | go_step3 | rw [Exit.noGoto_normal] | rw [Exit.noGoto_ret] | rw [Exit.noGoto_exit]))
  go_loopw [6, 7, 8] (fun u6 u7 u8 wr => ∃ (k : Nat) (Lr : List Blk), k ≤ 1 ∧ u8 = .int .i64 (k : Int) ∧ u6 = .int .u64 ((N / 256 ^ k : Nat) : Int) ∧ BL (beB N k) u7 Lr ∧ St w0 wr Lr) (fun _ _ u8 _ => 1 - (intOf u8).toNat)
  case atStart => exact ⟨0, [], by omega, rfl, by simp, .inl ⟨rfl, beB_zero N, rfl⟩, hS⟩
  case round =>
    obtain ⟨k, Lr, hk, rfl, rfl, hR, hS⟩ := hrel
    by_cases hlt : k < 1
    · obtain ⟨M, hM⟩ : ∃ M, N / 256 ^ k = M := ⟨_, rfl⟩
      have hMlt : M < 18446744073709551616 := by rw [← hM]; exact Nat.lt_of_le_of_lt (Nat.div_le_self _ _) hNlt
      have hM2 : N / 256 ^ (k + 1) = M / 256 := by rw [← hM, Nat.pow_succ, Nat.div_div_eq_div_mul]
      have hbe : beB N (k + 1) = UInt8.ofNat M :: beB N k := by rw [beB_succ, hM]
      have hz : ((M : Int) % 256) % 256 = ((UInt8.ofNat M).toNat : Int) := by
        have : (UInt8.ofNat M).toNat = M % 256 := by simp
        rw [this]; omega
      have hl : (beB N k).length = k := beB_len _ _
      rw [hM]
      repeat' (first | ((with_reducible refine Ad ?_); first | ((first | refine Bn Aa ?_ | refine Bm Aa ?_ | refine Az Aa ?_ | refine Bw Aa ?_ | refine g_quo Aa ?_ | refine g_rem Aa ?_ | refine Be Aa ?_ | refine Bg Aa ?_ | refine Bv Aa (fun hc => ?_) (fun hc => ?_) | refine Bp Aa ?_ | refine Bo Aa ?_ | refine Bk Aa ?_) <;> refine Ac ?_) | ((first | refine Ba Aa Ab hS ?_ | refine Bd Aa Ab hS ?_); clear hS; intro b w hS; refine Ac ?_) | (refine Stp.go Aa (by rfl) (by rfl) (r_convQ (by rfl) (by rfl) (by infer_instance) (by infer_instance) hz) ?_; refine Ac ?_)) | ((fail_if_success (with_reducible refine Ad ?_)); first | go_step | go_step3 | rw [Exit.noGoto_normal] | rw [Exit.noGoto_ret] | rw [Exit.noGoto_exit]))
      rcases hR with ⟨rfl, e0, rfl⟩ | ⟨g, c, sp, rfl, h1, h2, h3, rfl⟩
      · refine Stp.go Aa (by rfl) (by rfl) (r_appendN (by rfl) (by rfl) (by rfl) (by infer_instance) (Nat.le_refl _)) ?_
        refine Ac ?_
        repeat' (first | ((with_reducible refine Ad ?_); first | ((first | refine Bn Aa ?_ | refine Bm Aa ?_ | refine Az Aa ?_ | refine Bw Aa ?_ | refine g_quo Aa ?_ | refine g_rem Aa ?_ | refine Be Aa ?_ | refine Bg Aa ?_ | refine Bv Aa (fun hc => ?_) (fun hc => ?_) | refine Bp Aa ?_ | refine Bo Aa ?_ | refine Bk Aa ?_) <;> refine Ac ?_) | ((first | refine Ba Aa Ab hS ?_ | refine Bd Aa Ab hS ?_); clear hS; intro b w hS; refine Ac ?_)) | ((fail_if_success (with_reducible refine Ad ?_)); first | go_step | go_step3 | rw [Exit.noGoto_normal] | rw [Exit.noGoto_ret] | rw [Exit.noGoto_exit]))
        go_roundw
        case rel => exact ⟨k + 1, _, by omega, by push_cast; rfl, by rw [hM2]; push_cast; rfl, by rw [hbe, e0]; exact .inr ⟨_, 1, [], rfl, Nat.le_refl _, by decide, rfl, rfl⟩, hS⟩
        case measure => first | (simp [intOf]; done) | (simp [intOf]; omega)
      · have h2' := h2
        unfold maxLen at h2'
        refine s_append Aa Ab hS (by rfl) (by rfl) (by rfl) (by rfl) (by infer_instance) (by exact at_ 0 rfl) (olds := [UInt8.ofNat M].map bv) (spare := []) (by rfl) (by rfl) (Nat.le_refl _) (by rfl) (bytesAt_mid (pre := []) (off := 0) (hS.blk 1 rfl) rfl rfl rfl h1).srcs (by rw [List.length_map, Nat.mul_one]) (bv_one _) (by unfold maxLen; omega) rfl ?_
        clear hS
        intro b' c' sp' w' k1 k2 k3 hS
        refine Ac ?_
        repeat' (first | ((with_reducible refine Ad ?_); first | ((first | refine Bn Aa ?_ | refine Bm Aa ?_ | refine Az Aa ?_ | refine Bw Aa ?_ | refine g_quo Aa ?_ | refine g_rem Aa ?_ | refine Be Aa ?_ | refine Bg Aa ?_ | refine Bv Aa (fun hc => ?_) (fun hc => ?_) | refine Bp Aa ?_ | refine Bo Aa ?_ | refine Bk Aa ?_) <;> refine Ac ?_) | ((first | refine Ba Aa Ab hS ?_ | refine Bd Aa Ab hS ?_); clear hS; intro b w hS; refine Ac ?_)) | ((fail_if_success (with_reducible refine Ad ?_)); first | go_step | go_step3 | rw [Exit.noGoto_normal] | rw [Exit.noGoto_ret] | rw [Exit.noGoto_exit]))
        go_roundw
        case rel => exact ⟨k + 1, [_], by omega, by push_cast; rfl, by rw [hM2]; push_cast; rfl, by rw [hbe]; exact .inr ⟨b', c', sp', by rw [List.length_cons, Nat.add_comm], by rw [List.length_cons]; omega, k2, by rw [List.length_cons]; omega, rfl⟩, hS.take 1⟩
        case measure => first | (simp [intOf]; done) | (simp [intOf]; omega)
    · obtain rfl : k = 1 := by omega
      repeat' (first | ((with_reducible refine Ad ?_); first | ((first | refine Bn Aa ?_ | refine Bm Aa ?_ | refine Az Aa ?_ | refine Bw Aa ?_ | refine g_quo Aa ?_ | refine g_rem Aa ?_ | refine Be Aa ?_ | refine Bg Aa ?_ | refine Bv Aa (fun hc => ?_) (fun hc => ?_) | refine Bp Aa ?_ | refine Bo Aa ?_ | refine Bk Aa ?_) <;> refine Ac ?_) | ((first | refine Ba Aa Ab hS ?_ | refine Bd Aa Ab hS ?_); clear hS; intro b w hS; refine Ac ?_)) | ((fail_if_success (with_reducible refine Ad ?_)); first | go_step | go_step3 | rw [Exit.noGoto_normal] | rw [Exit.noGoto_ret] | rw [Exit.noGoto_exit]))
      go_ret2
      exact ⟨_, rfl, hR.own hS (fun x hx => hx), hS.below⟩
end Go.Proofs.Ytkfggilildiflac

namespace Go.Proofs.Ytkfggilildiflac
open Go.ChangeShapes Go.WideShapes Go.ChangeAt Go.RowKit
attribute [local irreducible] wpList wpListIn Oper.quietAt wpM
instance : AtT Try.prog 55 1 ((zs 128).map bv) := ⟨by kernel_rfl⟩
set_option maxRecDepth 100000 in
theorem fill_good (l : List UInt8) (hl : l.length ≤ 128) (v : Value) (w0 : World) (hv : BytesAt w0 v l) :
    Calls Try.prog 46 #[v] w0 fun e w' => e = .returned (.tuple #[.agg (bvs (l ++ zs (128 - l.length))), .nilIface]) ∧ Below w0.heap.size w0 w' := by
  obtain ⟨p, c, rfl, hc⟩ := hv.slice
  have hS := St.start w0
  have l1 : l.take 128 = l := List.take_of_length_le hl
  have s1 : csz (bvs (l ++ zs (128 - l.length))) = 128 := by rw [Ce, List.length_append, zs_len]; omega
  go_enter Try.func46, Try.ntmps46
  repeat' (first | ((with_reducible refine Ad ?_); first | ((first | refine Bn Aa ?_ | refine Bm Aa ?_ | refine Az Aa ?_ | refine Bi Aa Ab hS ?_ | refine Bs Aa ?_ | refine Be Aa ?_ | refine Bg Aa ?_ | refine Bv Aa (fun hc => ?_) (fun hc => ?_) | refine Ae Aa ?_ | refine Bc Aa ?_ | refine As Aa ?_ | refine Ak Aa ?_) <;> refine Ac ?_) | ((first | refine Bh Aa Ab hS ?_); clear hS; intro b w hS; refine Ac ?_) | ((first | refine Au Aa Ab hS ?_ | refine Bb Aa Ab hS ?_); clear hS; intro w hS; refine Ac ?_)) | ((fail_if_success (with_reducible refine Ad ?_)); first | go_step | go_step3 | rw [Exit.noGoto_normal] | rw [Exit.noGoto_ret] | rw [Exit.noGoto_exit]))
  refine s_copy (i := 0) Aa Ab hS (by rfl) (by rfl) (by rfl) (by rfl) (by infer_instance) (by rfl) (hv.below hS.below) (by rw [l1, Ce, zs_len]; omega) (cs2 := bvs (l ++ zs (128 - l.length))) (by
    rw [ovw_bvs, l1, List.take_zero, List.nil_append]; congr 2; unfold zs; rw [List.drop_replicate, Nat.zero_add]) (by (try conv => lhs; simp only [List.set_cons_zero, List.set_cons_succ, List.eraseIdx_cons_zero, List.eraseIdx_cons_succ]); first | done | rfl) rfl ?_
  clear hS
  intro w hS
  refine Ac ?_
  repeat' (first | ((with_reducible refine Ad ?_); first | ((first | refine Bn Aa ?_ | refine Bm Aa ?_ | refine Az Aa ?_ | refine Bi Aa Ab hS ?_ | refine Bs Aa ?_ | refine Be Aa ?_ | refine Bg Aa ?_ | refine Bv Aa (fun hc => ?_) (fun hc => ?_) | refine Ae Aa ?_ | refine Bc Aa ?_ | refine As Aa ?_ | refine Ak Aa ?_) <;> refine Ac ?_) | ((first | refine Bh Aa Ab hS ?_); clear hS; intro b w hS; refine Ac ?_) | ((first | refine Au Aa Ab hS ?_ | refine Bb Aa Ab hS ?_); clear hS; intro w hS; refine Ac ?_)) | ((fail_if_success (with_reducible refine Ad ?_)); first | go_step | go_step3 | rw [Exit.noGoto_normal] | rw [Exit.noGoto_ret] | rw [Exit.noGoto_exit]))
  exact De (n := 128) Try.results46 (by kernel_rfl) (.inl rfl) _ _ _ _ rfl rfl (hS.blk 1 rfl) (by rw [← csz_is]; exact s1) ⟨rfl, hS.below⟩
/-- The numbers of reservations, each with its size. -/
def numsR (r : Rv) : List Rg := [(8, r.gen), (1, if r.stays then 1 else 0), (1, r.typ), (1, (r.regs.length : Int)), (8, wrap64 (r.holder + 1))] ++ r.regs.flatMap fun y => [(8, y.1), (8, y.2)]
def bytesR (l : List Rg) : List UInt8 := l.flatMap fun p => beB (u64W p.2) p.1.toNat
def cellR (r : Rv) : List UInt8 := bytesR (numsR r) ++ zs (128 - (bytesR (numsR r)).length)
theorem bytesR_snoc (l : List Rg) (p : Rg) : bytesR (l ++ [p]) = bytesR l ++ beB (u64W p.2) p.1.toNat := by
  unfold bytesR
  rw [List.flatMap_append]
  simp
theorem numsR_len (r : Rv) : (numsR r).length = 5 + 2 * r.regs.length := by
  unfold numsR
  rw [List.length_append]
  have : ∀ l : List Rg, (l.flatMap fun y => [((8 : Int), y.1), (8, y.2)]).length = 2 * l.length := by
    intro l
    induction l with
    | nil => rfl
    | cons y l ih => rw [List.flatMap_cons, List.length_append, ih, List.length_cons]; simp; omega
  rw [this]
  rfl
/-- Each has one byte, in range, or eight. -/
def sizedR (p : Rg) : Prop := p.1 = 8 ∨ p.1 = 1 ∧ 0 ≤ p.2 ∧ p.2 ≤ 255
theorem numsR_sized {r : Rv} (hG : goodR r) : ∀ p ∈ numsR r, sizedR p := by
  have h4 : r.regs.length ≤ 4 := hG.1.1
  have ht := good_typ hG
  intro p hp
  unfold numsR at hp
  simp only [List.mem_append, List.mem_cons, List.not_mem_nil, or_false, List.mem_flatMap] at hp
  rcases hp with (rfl | rfl | rfl | rfl | rfl) | ⟨y, _, rfl | rfl⟩
  · exact .inl rfl
  · refine .inr ⟨rfl, ?_⟩
    dsimp only
    split <;> omega
  · refine .inr ⟨rfl, ?_⟩
    dsimp only
    split at ht <;> omega
  · exact .inr ⟨rfl, by dsimp only; omega, by dsimp only; omega⟩
  · exact .inl rfl
  · exact .inl rfl
  · exact .inl rfl
theorem bytesR_len {l : List Rg} (h : ∀ p ∈ l, sizedR p) : (bytesR l).length ≤ 8 * l.length := by
  induction l with
  | nil => exact Nat.le_refl _
  | cons p l ih =>
    unfold bytesR
    rw [List.flatMap_cons, List.length_append, List.length_cons, beB_len]
    have h1 := ih fun q hq => h q (List.mem_cons_of_mem _ hq)
    unfold bytesR at h1
    have h2 := h p (List.mem_cons_self ..)
    have : p.1.toNat ≤ 8 := by rcases h2 with e | ⟨e, _⟩ <;> rw [e] <;> decide
    omega
theorem numsB_len {r : Rv} (hG : goodR r) : (bytesR (numsR r)).length ≤ 128 := by
  have h1 := bytesR_len (numsR_sized hG)
  rw [numsR_len] at h1
  have h4 : r.regs.length ≤ 4 := hG.1.1
  omega
end Go.Proofs.Ytkfggilildiflac

namespace Go.Proofs.Ytkfggilildiflac
open Go.RowKit
/-- What is listed where these are left. -/
def lst (n : Nat) (R : List Nat) : Array Bool := ((List.range n).map fun i => !R.contains i).toArray
/-- Operations that look at no memory and call nothing. -/
def pureKind (o : Oper) : Bool := match o.op with
  | .move _ | .assign _ | .pick .. | .extract .. | .slice .. | .fieldAddr .. | .field .. | .indexAddr .. | .binOp .. | .unOp .. | .convert .. | .makeInterface .. => true
  | _ => false
/-- This one may be taken ahead of all others that are left. -/
def pullOK (ops : Array Oper) (R : List Nat) (i : Nat) : Bool :=
  let R' := R.erase i
  Region.noSelect ops && (Region.ready .any ops (lst ops.size R)).contains i && (lst ops.size R).setIfInBounds i true == lst ops.size R' && R.length == R'.length + 1 &&
  (match ops[i]? with
  | some oi => pureKind oi && R'.all (fun j => match ops[j]? with
    | some oj => oj.after.toList.any (fun e => Region.binds .any e && e.on == i) || oi.apart ops oj
    | none => true) && (List.range ops.size).all (fun j => j == i || R'.contains j || (lst ops.size R).getD j true)
  | none => false)
/-- This one is the next. -/
def turnOK (ops : Array Oper) (R : List Nat) (i : Nat) : Bool :=
  let R' := R.erase i
  Region.ready .any ops (lst ops.size R) == [i] && (lst ops.size R).setIfInBounds i true == lst ops.size R' && R.length == R'.length + 1
/-- One of these two is the next. -/
def turn2OK (ops : Array Oper) (R : List Nat) (i j : Nat) : Bool :=
  let R1 := R.erase i
  let R2 := R.erase j
  Region.ready .any ops (lst ops.size R) == [i, j] && (lst ops.size R).setIfInBounds i true == lst ops.size R1 && (lst ops.size R).setIfInBounds j true == lst ops.size R2 && R.length == R1.length + 1 && R.length == R2.length + 1
def WA (P : Program) (ops : Array Oper) (Q : Exit → Act → World → Prop) (R : List Nat) (a : Act) (w : World) : Prop := wpAny P .any ops Q R.length (lst ops.size R) a w
section
variable {P : Program} {ops : Array Oper} {Q : Exit → Act → World → Prop} {R : List Nat} {a : Act} {w : World} {o : Oper}
theorem nth_at {i : Nat} (h : nthL ops.toList i = some o) : ops[i]? = some o := by
  rw [nthL_eq] at h
  simpa using h
theorem any_start {id : Nat} (R : List Nat) (hm : P.follows .mixedOrders = true) (hR : (lst ops.size R == Array.replicate ops.size false && R.length == ops.size) = true) (h : ∀ w', Cls w w' → WA P ops Q R a w') : (Code.region id ops true).wp P Q a w := by
  simp only [Bool.and_eq_true, beq_iff_eq] at hR
  refine wp_region_any hm ?_
  have := h { w with drawn := w.drawn + 1 } ⟨rfl, rfl, rfl, Nat.le_refl _, fun _ _ => rfl⟩
  unfold WA at this
  rwa [hR.1, hR.2] at this
theorem any_done (hR : (R.isEmpty && Region.ready .any ops (lst ops.size R) == []) = true) (h : wpList P ops Q [] a w) : WA P ops Q R a w := by
  simp only [Bool.and_eq_true, beq_iff_eq, List.isEmpty_iff] at hR
  obtain ⟨rfl, hR⟩ := hR
  exact ⟨hR, h⟩
theorem pull_pure {v : Value} (hpk : pureKind o = true) (hw : Region.wanted o (yielded ops a.tmps) = true) (hq : ∀ (C : World → Prop) w', o.quietAt P a C w' v) : Yields P ops o v a := by
  refine .inl ⟨hw, fun w' => ?_⟩
  have h1 := hq (fun _ => True) w'
  unfold Oper.quietAt at h1
  have hne : ∀ f args w2, (execOp a.eval o).run P w' ≠ .ok (.enter f args) w2 := by
    intro f args w2 he
    unfold pureKind at hpk
    unfold execOp at he
    split at hpk <;> first | (cases hpk; done) | skip
    all_goals
      next hop =>
      rw [hop] at he
      simp only [Sem.run_bind, Sem.run_pure] at he
      first
        | (cases he; done)
        | (revert he; generalize Sem.run P _ w' = r; cases r <;> (intro he; simp [Result.andThen] at he; done))
        | (revert he; generalize Sem.run P _ w' = r; cases r <;> intro he <;> simp only [Result.andThen] at he <;> first | (cases he; done) | (revert he; generalize Sem.run P _ _ = r2; cases r2 <;> (intro he; simp at he; done)))
  have hns2 : ∀ w2, (execOp a.eval o).run P w' = .ok .skip w2 → False := by
    intro w2 he
    unfold pureKind at hpk
    unfold execOp at he
    split at hpk <;> first | (cases hpk; done) | skip
    all_goals
      next hop =>
      rw [hop] at he
      simp only [Sem.run_bind, Sem.run_pure] at he
      first
        | (cases he; done)
        | (revert he; generalize Sem.run P _ w' = r; cases r <;> (intro he; simp [Result.andThen] at he; done))
        | (revert he; generalize Sem.run P _ w' = r; cases r <;> intro he <;> simp only [Result.andThen] at he <;> first | (cases he; done) | (revert he; generalize Sem.run P _ _ = r2; cases r2 <;> (intro he; simp at he; done)))
  generalize hr : (execOp a.eval o).run P w' = r at *
  cases r with
  | halt x w2 => exact h1.elim
  | ok n w2 =>
    cases n <;> simp only [Oper.quietUpon] at h1
    case value u => obtain ⟨rfl, rfl⟩ := h1; rfl
    case skip => exact (hns2 _ rfl).elim
    case enter f args => exact absurd rfl (hne f args w2)
theorem any_first {v : Value} (i : Nat) (hok : pullOK ops R i = true) (hi' : nthL ops.toList i = some o) (hQ : ∀ (u : Value) c a w, Q (.panic c) (a.put o.dst u) w → Q (.panic c) a w)
    (hy : pureKind o = true → Yields P ops o v a) (h : WA P ops Q (R.erase i) (a.put o.dst v) w) : WA P ops Q R a w := by
  have hi := nth_at hi'
  unfold pullOK at hok
  rw [hi] at hok
  simp only [Bool.and_eq_true, beq_iff_eq] at hok
  obtain ⟨⟨⟨⟨hns, hrd⟩, hset⟩, hlen⟩, ⟨hpk, hall⟩, hcov⟩ := hok
  replace hy := hy hpk
  unfold WA at h ⊢
  rw [hlen]
  refine wpAny_first hi (Region.noSelect_spec hns) (hQ v) _ _ _ _ ?_ (List.contains_iff_mem.1 hrd) hy (by rw [hset]; exact h)
  intro j oj hoj hji hun hno
  have hjl : j < ops.size := (Array.getElem?_eq_some_iff.1 hoj).1
  have h1 := List.all_eq_true.1 hcov j (List.mem_range.2 hjl)
  simp only [Bool.or_eq_true, beq_iff_eq] at h1
  rcases h1 with (h1 | h1) | h1
  · exact absurd h1 hji
  · have h2 := List.all_eq_true.1 hall j (List.contains_iff_mem.1 h1)
    rw [hoj] at h2
    simp only [Bool.or_eq_true] at h2
    rcases h2 with h2 | h2
    · obtain ⟨e, he, hb⟩ := List.any_eq_true.1 h2
      simp only [Bool.and_eq_true, beq_iff_eq] at hb
      exact absurd hb.2 (hno e (by simpa using he) hb.1)
    · exact h2
  · rw [h1] at hun; cases hun
theorem any_pull (i : Nat) (hok : pullOK ops R i = true) (hi' : nthL ops.toList i = some o) (hw : Region.wanted o (yielded ops a.tmps) = true) (hQ : ∀ (u : Value) c a w, Q (.panic c) (a.put o.dst u) w → Q (.panic c) a w)
    (h : ∃ v, (∀ (C : World → Prop) w', o.quietAt P a C w' v) ∧ WA P ops Q (R.erase i) (a.put o.dst v) w) : WA P ops Q R a w := by
  obtain ⟨v, hq, h⟩ := h
  exact any_first i hok hi' hQ (fun hpk => pull_pure hpk hw hq) h
theorem any_pullS (i : Nat) (hok : pullOK ops R i = true) (hi' : nthL ops.toList i = some o) (hw : Region.wanted o (yielded ops a.tmps) = false) (hQ : ∀ (u : Value) c a w, Q (.panic c) (a.put o.dst u) w → Q (.panic c) a w)
    (h : WA P ops Q (R.erase i) (a.put o.dst undef) w) : WA P ops Q R a w := any_first i hok hi' hQ (fun _ => .inr ⟨hw, rfl⟩) h
theorem wa_put {d : Option Nat} {v : Value} {a2 : Act} (h : WA P ops Q R a2 w) (hput : a.put d v = a2 := by (conv => lhs; simp only [Act.put, List.setIfInBounds_toArray, List.set_cons_zero, List.set_cons_succ]); first | done | rfl) : WA P ops Q R (a.put d v) w := by rw [hput]; exact h
theorem lets_then {K : Act → World → Prop} (h : LetsOut (Exit.then K Q)) : LetsOut Q := by
  obtain ⟨a, w, h⟩ := h
  exact ⟨a, w, h⟩
theorem wp_thenK {K : Act → World → Prop} (h : o.wp P a w (wpList P ops (Exit.then K Q) []) (Exit.then K Q)) : o.wp P a w K Q := by
  unfold Oper.wp at h ⊢
  generalize (execOp a.eval o).run P w = r at *
  cases r with
  | ok n w' =>
    cases n <;> simp only [Oper.upon] at h ⊢
    case enter f args =>
      refine Calls.mono h fun e w'' he => ?_
      cases e with
      | returned v => exact he
      | panicked c => exact he
      | outgrown => exact lets_then he
    all_goals exact h
  | halt x w' => cases x <;> simp only [Oper.upon] at h ⊢ <;> exact h
theorem any_op {K : Act → World → Prop} {i : Nat} (hi' : nthL ops.toList i = some o) (h : wpList P ops (Exit.then K Q) [o] a w) : wpOp P ops Q i K a w := by
  have hi := nth_at hi'
  unfold wpOp
  rw [hi]
  unfold wpList at h
  simp only at h ⊢
  split
  · next hw =>
    rw [if_pos hw] at h
    exact h.imp wp_thenK fun h2 => ⟨h2.1, lets_then h2.2⟩
  · next hw =>
    rw [if_neg hw] at h
    exact h
theorem any_turn (i : Nat) (hok : turnOK ops R i = true) (hi' : nthL ops.toList i = some o) (h : wpList P ops (Exit.then (WA P ops Q (R.erase i)) Q) [o] a w) : WA P ops Q R a w := by
  unfold turnOK at hok
  simp only [Bool.and_eq_true, beq_iff_eq] at hok
  obtain ⟨⟨hrd, hset⟩, hlen⟩ := hok
  unfold WA at h ⊢
  rw [hlen]
  refine ⟨fun h0 => (by rw [hrd] at h0; cases h0), fun k hk => ?_⟩
  rw [hrd, List.mem_singleton] at hk
  subst hk
  rw [hset]
  exact any_op hi' h
theorem any_turn2 {o2 : Oper} (i j : Nat) (hok : turn2OK ops R i j = true) (hi' : nthL ops.toList i = some o) (hj' : nthL ops.toList j = some o2) (h1 : wpList P ops (Exit.then (WA P ops Q (R.erase i)) Q) [o] a w) (h2 : wpList P ops (Exit.then (WA P ops Q (R.erase j)) Q) [o2] a w) : WA P ops Q R a w := by
  unfold turn2OK at hok
  simp only [Bool.and_eq_true, beq_iff_eq] at hok
  obtain ⟨⟨⟨⟨hrd, hset1⟩, hset2⟩, hlen1⟩, hlen2⟩ := hok
  unfold WA at h1 h2 ⊢
  rw [hlen1]
  rw [← Nat.succ_inj.1 (hlen1.symm.trans hlen2)] at h2
  refine ⟨fun h0 => (by rw [hrd] at h0; cases h0), fun k hk => ?_⟩
  rw [hrd] at hk
  rcases List.mem_cons.1 hk with rfl | hk
  · rw [hset1]
    exact any_op hi' h1
  · rw [List.mem_singleton] at hk
    subst hk
    rw [hset2]
    exact any_op hj' h2
end
end Go.Proofs.Ytkfggilildiflac
