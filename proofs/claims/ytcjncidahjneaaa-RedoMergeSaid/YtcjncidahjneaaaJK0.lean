/-
  Laws that the claims of this seat use, of several texts in one: Rd9, RdA, Rd8, KeptX, OpenG, TrodB, RdO. No condition of their own.
-/
import Derived.Test.YtcjncidahjneaaaJJ0

namespace Go.Proofs.Ytcjncidahjneaaa
open Go.ChangeShapes Go.WideShapes Go.ChangeAt Go.RowKit
attribute [local irreducible] wpList wpListIn Oper.quietAt wpM
/-- A slice of sectors: their bytes, one behind the other. -/
def CellsAt (w : World) (v : Value) (X : List UInt8) (k : Nat) : Prop := X.length = 128 * k ∧ ∃ p c, v = .slice p k c ∧ k ≤ c ∧ (p = none → c = 0) ∧ (0 < k → ∃ b o cs t fr, p = some ⟨b, o, none⟩ ∧ blk w b = some (.cells cs t fr) ∧ ∀ j x, X[j]? = some x → cs[o + j]? = some (bv x))
theorem CellsAt.below {w w' : World} {v : Value} {X : List UInt8} {k : Nat} (h : CellsAt w v X k) (hb : Below w.heap.size w w') : CellsAt w' v X k := by
  obtain ⟨h0, p, c, h1, h2, h3, h4⟩ := h
  refine ⟨h0, p, c, h1, h2, h3, fun hne => ?_⟩
  obtain ⟨b, o, cs, t, fr, h5, h6, h7⟩ := h4 hne
  exact ⟨b, o, cs, t, fr, h5, (hb.block b (blk_lt h6)).trans h6, h7⟩
theorem CellsAt.nil (w : World) : CellsAt w (.slice none 0 0) [] 0 := ⟨rfl, none, 0, rfl, Nat.le_refl _, fun _ => rfl, fun h => absurd h (by omega)⟩
theorem CellsAt.own {w : World} {g k c : Nat} {X : List UInt8} {sp : List Value} {t : TypeId} {fr : Nat × Nat} (hl : X.length = 128 * k) (hc : k ≤ c) (hb : blk w g = some (.cells (X.map bv ++ sp).toArray t fr)) : CellsAt w (.slice (some ⟨g, 0, none⟩) k c) X k :=
  ⟨hl, _, c, rfl, hc, (fun h => by cases h), fun _ => ⟨g, 0, _, t, fr, rfl, hb, fun j x hj => by
    rw [Nat.zero_add, List.getElem?_toArray, List.getElem?_append_left (by rw [List.length_map]; exact (List.getElem?_eq_some_iff.1 hj).1), List.getElem?_map, hj]; rfl⟩⟩
end Go.Proofs.Ytcjncidahjneaaa

namespace Go.Proofs.Ytcjncidahjneaaa
open Go.ChangeShapes Go.WideShapes Go.ChangeAt Go.RowKit
attribute [local irreducible] wpList wpListIn Oper.quietAt wpM
attribute [local irreducible] cellN
/-- A row: its number, its bytes. -/
abbrev Rw := Int × List UInt8
/-- Rows as they lie: `vs` are the slices that they hold. -/
def RwAt (w : World) (v : Value) (l : List Rw) : Prop := ∃ (vs : List Value), (∀ (i : Nat) (a : Int) (x : List UInt8), l[i]? = some (a, x) → ∃ sv, vs[i]? = some sv ∧ BytesAt w sv x ∧ (-9223372036854775808 ≤ a ∧ a ≤ 9223372036854775807)) ∧ ∃ p c, v = .slice p l.length c ∧ l.length ≤ c ∧ (p = none → c = 0) ∧ (l ≠ [] → ∃ b o cs t fr, p = some ⟨b, o, none⟩ ∧ blk w b = some (.cells cs t fr) ∧ ∀ (i : Nat) (a : Int) (x : List UInt8) (sv : Value), l[i]? = some (a, x) → vs[i]? = some sv → cs[o + i * 2]? = some (.int .i64 a) ∧ cs[o + i * 2 + 1]? = some sv)
theorem RwAt.below {w w' : World} {v : Value} {l : List Rw} (h : RwAt w v l) (hb : Below w.heap.size w w') : RwAt w' v l := by
  obtain ⟨vs, h0, p, c, h1, h2, h3, h4⟩ := h
  refine ⟨vs, fun i a x hi => ?_, p, c, h1, h2, h3, fun hne => ?_⟩
  · obtain ⟨sv, q1, q2, q3⟩ := h0 i a x hi
    exact ⟨sv, q1, q2.below hb, q3⟩
  · obtain ⟨b, o, cs, t, fr, h5, h6, h7⟩ := h4 hne
    exact ⟨b, o, cs, t, fr, h5, (hb.block b (blk_lt h6)).trans h6, h7⟩
/-- Rows as puts. -/
def rowP (l : List Rw) : List Pt := l.map fun x => (x.1, cellN x.2)
theorem rowP_len (l : List Rw) : (rowP l).length = l.length := by unfold rowP; rw [List.length_map]
theorem rowP_ok {w : World} {v : Value} {l : List Rw} (h : RwAt w v l) : okP (rowP l) := by
  obtain ⟨vs, h0, _⟩ := h
  intro x hx
  obtain ⟨⟨a, y⟩, hy, rfl⟩ := List.mem_map.1 hx
  obtain ⟨i, hi⟩ := List.getElem?_of_mem hy
  obtain ⟨_, _, _, hr⟩ := h0 i a y hi
  exact ⟨cellN_len y, hr⟩
theorem rowP_next {l : List Rw} {k : Nat} {a : Int} {x : List UInt8} (h : l[k]? = some (a, x)) : putsC (rowP (l.take (k + 1))) = putsC (rowP (l.take k)) ++ putC (a, cellN x) := by
  unfold rowP putsC
  rw [List.take_add_one, h, List.map_append, List.flatMap_append]
  simp
instance instRdA_1 : StT Try.prog 70 [(0, 1), (1, 128)] (.int .i64 0 :: (zs 128).map bv) := ⟨by kernel_rfl⟩
theorem pt_built (a : Int) {C : List UInt8} (hC : C.length = 128) : Try.prog.built 70 [(0, .int .i64 a), (1, .agg (bvs C))] = some (hdV a C) :=
  built_st (pl := [(0, 1), (1, 128)]) (z := .int .i64 0 :: (zs 128).map bv) (by infer_instance) (fill_of (cs := .int .i64 a :: C.map bv) (FillS.one (off := 0) rfl rfl (by simp) rfl (FillS.row (off := 1) (n := 128) rfl (by rw [Bg, hC]) (by rw [List.length_set, List.length_cons, List.length_map, zs_len]; omega) (by
    rw [List.drop_of_length_le (by rw [List.length_set, List.length_cons, List.length_map, zs_len]; omega), List.append_nil]
    rfl) FillS.nil)))
theorem cut_two {cs : Array Value} {o : Nat} {x y : Value} (h1 : cs[o]? = some x) (h2 : cs[o + 1]? = some y) : cut cs o 2 = #[x, y] := by
  have hsz := (Array.getElem?_eq_some_iff.1 h2).1
  have hex : cs.extract o (o + 2) = #[x, y] := by
    apply Array.ext_getElem?
    intro i
    rw [Array.getElem?_extract]
    match i with
    | 0 => rw [if_pos (by omega)]; exact h1
    | 1 => rw [if_pos (by omega)]; exact h2
    | i + 2 => rw [if_neg (by omega)]; rfl
  unfold cut
  split
  · rename_i h
    have : cs.extract o (o + 2) = cs := by
      rw [h.1, Nat.zero_add]
      have h2 := h.2
      rw [csz_is] at h2
      rw [← h2, Array.extract_size]
    rw [← this]; exact hex
  · exact hex
/-- Own puts. -/
theorem PutsAt.own {w : World} {g c : Nat} {l : List Pt} {sp : List Value} {t : TypeId} {fr : Nat × Nat} {n : Nat} (ho : okP l) (hn : l.length = n) (hc : n ≤ c) (hb : blk w g = some (.cells (putsC l ++ sp).toArray t fr)) : PutsAt w (.slice (some ⟨g, 0, none⟩) n c) l := by
  subst hn
  exact ⟨ho, _, c, rfl, hc, (fun h => by cases h), fun _ => ⟨g, 0, _, t, fr, rfl, hb, fun j x hj => by
    rw [Nat.zero_add, List.getElem?_toArray, List.getElem?_append_left (List.getElem?_eq_some_iff.1 hj).1, hj]⟩⟩
theorem putsC_one {l : List Pt} : ∀ v ∈ putsC l, v.oneCell' = true := by
  intro v hv
  obtain ⟨x, _, h⟩ := List.mem_flatMap.1 hv
  rcases List.mem_cons.1 h with rfl | h
  · rfl
  · obtain ⟨y, _, rfl⟩ := List.mem_map.1 h; rfl
theorem putC_one {x : Pt} : ∀ v ∈ putC x, v.oneCell' = true := by
  intro v h
  rcases List.mem_cons.1 h with rfl | h
  · rfl
  · obtain ⟨y, _, rfl⟩ := List.mem_map.1 h; rfl
set_option maxRecDepth 100000 in
set_option maxHeartbeats 4000000 in
theorem puts_any (l : List Rw) (hl : l.length ≤ 1000) (v : Value) (w0 : World) (hv : RwAt w0 v l) :
    Calls Try.prog 17 #[v] w0 fun e w' => ∃ g c sp, e = .returned (.slice (some ⟨g, 0, none⟩) l.length c) ∧ l.length ≤ c ∧ c ≤ maxLen ∧ sp.length = (c - l.length) * 129 ∧ w0.heap.size ≤ g ∧ blk w' g = some (.cells (putsC (rowP l) ++ sp).toArray 70 (0, 0)) ∧ Below w0.heap.size w0 w' := by
  have hok := rowP_ok hv
  obtain ⟨vs, hvs, p, c, rfl, hc, hp0, hcell⟩ := hv
  have hS := St.start w0
  obtain ⟨n, hn⟩ : ∃ n, l.length = n := ⟨_, rfl⟩
  rw [hn] at hl hc ⊢
  go_enter Try.func17, Try.ntmps17
  repeat' (first | ((with_reducible refine Ac ?_); first | ((first | refine Ai Aa ?_ | refine Al Aa ?_ | refine Af Aa ?_ | refine Av Aa Ab hS ?_ | refine Ba Aa Ab hS ?_ | refine Ag Aa ?_ | refine Ae Aa ?_ | refine Be Aa ?_ | refine Bd Aa ?_ | refine Ak Aa ?_ | refine Aj Aa ?_ | refine Aw Aa (fun hc => ?_) (fun hc => ?_) | refine Az Aa ?_ | refine Cp Aa ?_ | refine Ar Aa ?_) <;> refine Ad ?_) | ((first | refine Ay Aa Ab hS ?_ | refine Ao Aa Ab hS ?_ | refine As Aa Ab hS ?_); clear hS; intro b w hS; refine Ad ?_) | ((first | refine Ap Aa Ab hS ?_ | refine Aq Aa Ab hS ?_); clear hS; intro w hS; refine Ad ?_)) | ((fail_if_success (with_reducible refine Ac ?_)); first | go_step | go_step3 | rw [Exit.noGoto_normal] | rw [Exit.noGoto_ret] | rw [Exit.noGoto_exit]))
  go_loopw [3, 5, 9] (fun u3 u5 u9 wr => ∃ (k g c : Nat) (sp : List Value), k ≤ n ∧ u9 = .int .i64 (k : Int) ∧ u3 = .slice (some ⟨g, 0, none⟩) k c ∧ k ≤ c ∧ c ≤ maxLen ∧ sp.length = (c - k) * 129 ∧ St w0 wr [(g, (putsC (rowP (l.take k)) ++ sp).toArray, 70)]) (fun _ _ u9 _ => n - (intOf u9).toNat)
  case atStart => exact ⟨0, b, 0, [], by omega, rfl, rfl, by omega, by decide, rfl, hS⟩
  case round =>
    clear hS
    obtain ⟨k, g, c2, sp, hk, rfl, rfl, k1, k2, k3, hS⟩ := hrel
    have k2' := k2
    unfold maxLen at k2'
    have hlk : (putsC (rowP (l.take k))).length = k * 129 := by
      rw [putsC_len (fun x hx => hok x (by unfold rowP at hx ⊢; rw [List.map_take] at hx; exact List.mem_of_mem_take hx)), rowP_len, List.length_take]; omega
    by_cases hlt : k < n
    · obtain ⟨⟨a, x⟩, hx⟩ : ∃ x, l[k]? = some x := ⟨_, List.getElem?_eq_getElem (by omega)⟩
      obtain ⟨b0, o0, cs, ty, fr, rfl, hb, hcc⟩ := hcell (by intro e; rw [e] at hn; simp at hn; omega)
      obtain ⟨sv, hsv, hbx, hr⟩ := hvs k a x hx
      obtain ⟨c1, c3⟩ := hcc k a x sv hx hsv
      have hsz : o0 + k * 2 + 2 ≤ csz cs := by rw [csz_is]; have := (Array.getElem?_eq_some_iff.1 c3).1; omega
      have hcut : cut cs (o0 + k * 2) 2 = #[.int .i64 a, sv] := cut_two c1 c3
      obtain ⟨p3, c4, rfl, _⟩ := hbx.slice
      have hnx := rowP_next hx
      have lC := cellN_len x
      have hce := fun w hv => cellN_any x (.slice p3 x.length c4) w hv
      have hpb := pt_built a lC
      obtain ⟨C, hC⟩ : ∃ C, cellN x = C := ⟨_, rfl⟩
      rw [hC] at hnx lC hce hpb
      have sC : csz (bvs C) = 128 := by rw [Bg, lC]
      have s1 : csz (hdV a C) = 129 := by rw [hdV_size, lC]
      obtain ⟨Z, hZ⟩ : ∃ Z, putsC (rowP (l.take k)) = Z := ⟨_, rfl⟩
      obtain ⟨Z2, hZ2⟩ : ∃ Z, putsC (rowP (l.take (k + 1))) = Z := ⟨_, rfl⟩
      rw [hZ] at hS hlk hnx
      rw [hZ2] at hnx
      repeat' (first | ((with_reducible refine Ac ?_); first | ((first | refine Ai Aa ?_ | refine Al Aa ?_ | refine Af Aa ?_ | refine Av Aa Ab hS ?_ (hv := by first | rfl | exact Bi | (rw [Array.getElem?_toList]; exact hcut)) | refine Bs Aa (by first | exact ((hS).far hb).1) ?_ (hv := by first | rfl | exact Bi | (rw [Array.getElem?_toList]; exact hcut)) | refine Ba Aa Ab hS ?_ (hv := by first | exact Bo _ _ (by (try simp only [Bn, Bg, Bm, List.length_append, List.length_set, zs_len, List.length_take, List.length_drop, List.length_cons, List.length_nil]); first | done | rfl | omega) | (exact hcut) | rfl) | refine Da Aa (by first | exact ((hS).far hb).1) ?_ (hv := by first | exact Bo _ _ (by (try simp only [Bn, Bg, Bm, List.length_append, List.length_set, zs_len, List.length_take, List.length_drop, List.length_cons, List.length_nil]); first | done | rfl | omega) | (exact hcut) | rfl) | refine Ag Aa ?_ | refine Ae Aa ?_ | refine Be Aa ?_ | refine Bd Aa ?_ | refine Ak Aa ?_ | refine Aj Aa ?_ | refine Aw Aa (fun hc => ?_) (fun hc => ?_) | refine Az Aa ?_ | refine Cp Aa ?_ | refine Ar Aa ?_) <;> refine Ad ?_) | ((first | refine Ay Aa Ab hS ?_ | refine Ao Aa Ab hS ?_ | refine As Aa Ab hS ?_); clear hS; intro b w hS; refine Ad ?_) | ((first | refine Ap Aa Ab hS ?_ | refine Aq Aa Ab hS ?_); clear hS; intro w hS; refine Ad ?_)) | ((fail_if_success (with_reducible refine Ac ?_)); first | go_step | go_step3 | rw [Exit.noGoto_normal] | rw [Exit.noGoto_ret] | rw [Exit.noGoto_exit]))
      refine region_fluid_lit [0] [0, 1, 2, 3, 4, 5, 6, 7, 8, 9] 7 (by kernel_rfl) (by kernel_rfl) (by rfl) (by kernel_rfl) (by (conv => lhs; simp only [addGs, addG, permL, List.map_cons, List.map_nil, nthL, orD, reO, reG, reE, posL, List.contains_cons, List.contains_nil, Nat.reduceBEq, Bool.or_false, Bool.or_true, Bool.or_self, Bool.false_eq_true, if_true, if_false, Nat.reduceEqDiff, Nat.zero_add, Nat.reduceAdd, List.cons_append, List.nil_append]); first | done | rfl) (by kernel_rfl) (fun _ _ _ _ _ h => h) ?_
      dsimp only [List.take, List.drop]
      iterate 7 (first | (refine Dc (fun _ => rfl) ?_; simp only [Act.put, List.setIfInBounds_toArray, List.set_cons_zero, List.set_cons_succ]) | (refine Cw (by rfl) (fun _ => rfl) _ (fun w => r_alloc (a := ⟨#[], []⟩) rfl (by infer_instance)) ?_; simp only [Act.put, List.setIfInBounds_toArray, List.set_cons_zero, List.set_cons_succ]) | (refine Cr rfl (fun _ => rfl) (fun K hK => ?_); apply Exists.intro; apply Exists.intro; apply Exists.intro; apply Exists.intro; refine ⟨fun pB w' hw' hF => ?_, hK _ _ ?_⟩; (focus (exact Cf (by rfl) (by rfl) (by infer_instance) (by rfl) (by repeat (first | exact (fun _ h => absurd h List.not_mem_nil) | refine List.forall_mem_cons.2 ⟨by first | rfl | (simp only [Value.cells]; first | rfl | omega), ?_⟩)) (by (try conv => lhs; simp only [List.flatMap_cons, List.flatMap_nil, Value.cells, List.append_nil, List.cons_append, List.nil_append]); first | done | rfl) (by decide) (by decide))); clear hK K; simp only [Act.put, List.setIfInBounds_toArray, List.set_cons_zero, List.set_cons_succ]) | (refine Dd (fun _ => rfl) (fun K hK => ?_); apply Exists.intro; refine ⟨fun pB w' hw' hF => ?_, hK _ _ ?_⟩; (focus (have hZ := (Ab).call hS hw'; first | exact (g_qcall (hce _ (hbx.below hZ.below))) | exact (Cn (r_built (by rfl) (by rfl) hpb)) | exact q_move | exact Dh | exact q_load1 Ab hZ | exact q_loadR Ab hZ | exact Ci | exact Cb | exact q_len | exact q_cap | exact Cy | exact q_add | exact q_sub | exact q_mul | exact q_quo | exact q_rem | exact q_cmp_t | exact q_cmp_f | exact De | exact Cx | exact Df | exact Cv | exact Ch | exact Di | exact Dg | exact Cm | exact Co | exact Bt | exact Cl | exact q_conv | exact q_pick | exact q_not | exact Db | exact Ct | exact Cc | exact Dk | exact Dl | exact Cs)); clear hK K; simp only [Act.put, List.setIfInBounds_toArray, List.set_cons_zero, List.set_cons_succ]))
      refine wpM_nil ?_
      intro pB w hcq hfq hnq
      replace hS := (Ab).news hS hcq _ (by first | decide | simp) hfq hnq
      first | simp only [List.map_nil, List.nil_append] at hS | simp only [List.map_cons, List.map_nil, List.cons_append, List.nil_append] at hS
      clear hcq hfq hnq
      try dsimp only
      refine As Aa Ab hS ?_ (h1 := by intro v hv; simp only [List.mem_cons, List.not_mem_nil, or_false] at hv; subst hv; show (hdV a C).size = 129; rw [← csz_is]; exact s1)
      clear hS
      intro b w hS
      refine Ad ?_
      refine s_append Aa Ab hS (by rfl) (by rfl) (by rfl) (by rfl) (by infer_instance) (by exact at_ 2 rfl) (olds := Z) (spare := sp) (by rfl) (by rw [hlk]) k1 k3 (xs := putC (a, C)) (src_blk (hS.blk 0 rfl) (fun j v h => by rw [Nat.zero_add]; exact h)) (by rw [putC_len (by exact lC)]) putC_one (by unfold maxLen; omega) (nm := k + 1) (by omega) ?_
      clear hS
      intro b' c' sp' w' q1 q2 q3 hS
      rw [← hnx] at hS
      replace hS := hS.take 1
      refine Ad ?_
      repeat' (first | ((with_reducible refine Ac ?_); first | ((first | refine Ai Aa ?_ | refine Al Aa ?_ | refine Af Aa ?_ | refine Av Aa Ab hS ?_ | refine Ba Aa Ab hS ?_ | refine Ag Aa ?_ | refine Ae Aa ?_ | refine Be Aa ?_ | refine Bd Aa ?_ | refine Ak Aa ?_ | refine Aj Aa ?_ | refine Aw Aa (fun hc => ?_) (fun hc => ?_) | refine Az Aa ?_ | refine Cp Aa ?_ | refine Ar Aa ?_) <;> refine Ad ?_) | ((first | refine Ay Aa Ab hS ?_ | refine Ao Aa Ab hS ?_ | refine As Aa Ab hS ?_); clear hS; intro b w hS; refine Ad ?_) | ((first | refine Ap Aa Ab hS ?_ | refine Aq Aa Ab hS ?_); clear hS; intro w hS; refine Ad ?_)) | ((fail_if_success (with_reducible refine Ac ?_)); first | go_step | go_step3 | rw [Exit.noGoto_normal] | rw [Exit.noGoto_ret] | rw [Exit.noGoto_exit]))
      go_roundw
      case rel => exact ⟨k + 1, b', c', sp', by omega, by push_cast; rfl, rfl, q1, q2, q3, by rw [hZ2]; exact hS⟩
      case measure => first | (simp [intOf]; done) | (simp [intOf]; omega)
    · obtain rfl : k = n := by omega
      rw [List.take_of_length_le (l := l) (by omega)] at hS
      repeat' (first | ((with_reducible refine Ac ?_); first | ((first | refine Ai Aa ?_ | refine Al Aa ?_ | refine Af Aa ?_ | refine Av Aa Ab hS ?_ | refine Ba Aa Ab hS ?_ | refine Ag Aa ?_ | refine Ae Aa ?_ | refine Be Aa ?_ | refine Bd Aa ?_ | refine Ak Aa ?_ | refine Aj Aa ?_ | refine Aw Aa (fun hc => ?_) (fun hc => ?_) | refine Az Aa ?_ | refine Cp Aa ?_ | refine Ar Aa ?_) <;> refine Ad ?_) | ((first | refine Ay Aa Ab hS ?_ | refine Ao Aa Ab hS ?_ | refine As Aa Ab hS ?_); clear hS; intro b w hS; refine Ad ?_) | ((first | refine Ap Aa Ab hS ?_ | refine Aq Aa Ab hS ?_); clear hS; intro w hS; refine Ad ?_)) | ((fail_if_success (with_reducible refine Ac ?_)); first | go_step | go_step3 | rw [Exit.noGoto_normal] | rw [Exit.noGoto_ret] | rw [Exit.noGoto_exit]))
      go_ret
      exact ⟨g, c2, sp, rfl, k1, k2, k3, hS.low 0 rfl, hS.blk 0 rfl, hS.below⟩
end Go.Proofs.Ytcjncidahjneaaa

namespace Go.Proofs.Ytcjncidahjneaaa
open Go.ChangeShapes Go.WideShapes Go.ChangeAt Go.RowKit
attribute [local irreducible] wpList wpListIn Oper.quietAt wpM
theorem pt_eq {P : Program} {t e : Nat} {w : World} {f1 f2 : Field} (hf : P.underlying t = some (.struct #[f1, f2])) (hh : P.stoodInHeld t = false) (h1 : f1.name ≠ "_") (h2 : f2.name ≠ "_") (o1 : f1.offset = 0) (o2 : f2.offset = 1)
    (i1 : P.underlying f1.type = some (.int .i64)) (i2 : P.underlying f2.type = some (.array 128 e)) (s2 : (P.info? f2.type).map (·.size) = some 128) (s2' : (P.info? e).map (·.size) = some 1) (he : P.underlying e = some (.int .u8)) (D : Nat) (a b : Int) (C E : List UInt8) (hC : C.length = 128) (hE : E.length = 128) :
    (Op.equalIn (D + 1 + 1 + 1) t (.agg (hdV a C)) (.agg (hdV b E))).run P w = .ok (a == b && C == E) w := by
  have hq : P.fieldsOf t = #[f1, f2] := by unfold Program.fieldsOf; rw [hf]
  rw [run_equalIn_agg w (D + 1 + 1) t _ _ (by rw [hq]; exact hf) hh, hq]
  have p1 := fun n B => pt_partI (w := w) i1 n B
  have p2 : ∀ n B, B.length = 128 → (part f2.type (hdV n B) 1).run P w = .ok (.agg (bvs B)) w := fun n B hB => by
    have := pt_partB i2 s2 n B 0 w
    rwa [List.drop_zero, List.take_of_length_le (by omega)] at this
  have q1 := run_equalIn_int w (D + 1) f1.type .i64 .i64 a b i1
  have q2 := run_equalIn_rows i2 s2' he (D + 1) (fun a b w => run_equalIn_int w D e .u8 .u8 a b he) C E hC hE w
  simp only [Op.eqFields, if_pos h1, if_pos h2, o1, o2, Sem.run_bind, p1, q1, Result.andThen_ok]
  cases hab : (a == b)
  · simp
  · simp only [Bool.true_and, Bool.not_true, Bool.false_eq_true, if_false, Sem.run_bind, p2 a C hC, p2 b E hE, q2, Result.andThen_ok]
    cases (C == E) <;> simp
set_option maxRecDepth 100000 in
theorem eqPt (a b : Int) (C E : List UInt8) (hC : C.length = 128) (hE : E.length = 128) (w : World) : (Op.equalIn 10000 70 (.agg (hdV a C)) (.agg (hdV b E))).run Try.prog w = .ok (a == b && C == E) w :=
  pt_eq Try.underlying70 (by kernel_rfl) (by decide) (by decide) rfl rfl Try.underlying3 Try.underlying30 (by kernel_rfl) (by kernel_rfl) Try.underlying5 9997 a b C E hC hE
theorem r_nePt {t' : Nat} {o : Oper} {a : Act} {w : World} {x y : Operand} {m n : Int} {C E : List UInt8} {q : Bool} (hC : C.length = 128) (hE : E.length = 128) (hop : o.op = .binOp .neq 70 x y t') (hx : evO a x = some (.agg (hdV m C))) (hy : evO a y = some (.agg (hdV n E))) (hg : Try.prog.eqGuardType Try.prog.depth 70 = false) (hq : (!(m == n && C == E)) = q) : (execOp a.eval o).run Try.prog w = .ok (.value (.bool q)) w := by
  unfold execOp; rw [hop]; subst hq
  simp only [Bb hx, Bb hy, Sem.run_bind, run_eqGuard_agg w .neq _ x y _ _ hg, Result.andThen_ok, run_neq_struct, eqPt m n C E hC hE w]
  rfl
set_option maxRecDepth 100000 in
set_option maxHeartbeats 4000000 in
theorem same_pts (la lb : List Pt) (hlen : la.length ≤ 1000000) (va vb : Value) (w0 : World) (ha : PutsAt w0 va la) (hb : PutsAt w0 vb lb) :
    Calls Try.prog 21 #[va, vb] w0 fun e w' => e = .returned (.bool (decide (la = lb))) ∧ Below w0.heap.size w0 w' := by
  obtain ⟨hoa, pa, ca, rfl, hca, hpa, hcea⟩ := ha
  obtain ⟨hob, pb, cb, rfl, hcb, hpb, hceb⟩ := hb
  have hS := St.start w0
  have hT : la = lb → decide (la = lb) = true := fun x => decide_eq_true x
  have hF : ¬ la = lb → decide (la = lb) = false := fun x => decide_eq_false x
  obtain ⟨G, hG⟩ : ∃ G, decide (la = lb) = G := ⟨_, rfl⟩
  rw [hG]
  rw [hG] at hT hF
  clear hG
  obtain ⟨n, hn⟩ : ∃ n, la.length = n := ⟨_, rfl⟩
  obtain ⟨m, hm⟩ : ∃ n, lb.length = n := ⟨_, rfl⟩
  rw [hn] at hca hlen ⊢
  rw [hm] at hcb ⊢
  by_cases hl : n = m
  · subst hl
    go_enter Try.func21, Try.ntmps21
    repeat' (first | ((with_reducible refine Ac ?_); first | ((first | refine Ai Aa ?_ | refine Al Aa ?_ | refine Af Aa ?_ | refine Ba Aa Ab hS ?_ | refine Ag Aa ?_ | refine Ae Aa ?_ | refine Be Aa ?_ | refine Bd Aa ?_ | refine Ak Aa ?_ | refine Aj Aa ?_ | refine Aw Aa (fun hc => ?_) (fun hc => ?_)) <;> refine Ad ?_)) | ((fail_if_success (with_reducible refine Ac ?_)); first | go_step | go_step3 | rw [Exit.noGoto_normal] | rw [Exit.noGoto_ret] | rw [Exit.noGoto_exit]))
    go_loopw [5, 13] (fun u5 u13 wr => ∃ k : Nat, k ≤ n ∧ u13 = .int .i64 (k : Int) ∧ la.take k = lb.take k ∧ St w0 wr []) (fun _ u13 _ => n - (intOf u13).toNat)
    case atStart => exact ⟨0, by omega, rfl, rfl, hS⟩
    case round =>
      clear hS
      obtain ⟨k, hk, rfl, htk, hS⟩ := hrel
      by_cases hlt : k < n
      · obtain ⟨⟨a, C⟩, hx⟩ : ∃ x, la[k]? = some x := ⟨_, List.getElem?_eq_getElem (by omega)⟩
        obtain ⟨⟨b, E⟩, hy⟩ : ∃ x, lb[k]? = some x := ⟨_, List.getElem?_eq_getElem (by omega)⟩
        obtain ⟨b1, o1, cs1, ty1, fr1, rfl, hb1, hc1⟩ := hcea (by intro e; rw [e] at hn; simp at hn; omega)
        obtain ⟨b2, o2, cs2, ty2, fr2, rfl, hb2, hc2⟩ := hceb (by intro e; rw [e] at hm; simp at hm; omega)
        obtain ⟨lC, c1, c2, c3, c4⟩ := put_cells hoa hc1 hx
        obtain ⟨lE, d1, d2, d3, d4⟩ := put_cells hob hc2 hy
        have ta : la.take (k + 1) = la.take k ++ [(a, C)] := by rw [List.take_add_one, hx]; rfl
        have tb : lb.take (k + 1) = lb.take k ++ [(b, E)] := by rw [List.take_add_one, hy]; rfl
        by_cases he : a = b ∧ C = E
        · have hq : (!(a == b && C == E)) = false := by simp [he.1, he.2]
          repeat' (first | ((with_reducible refine Ac ?_); first | ((first | refine Ai Aa ?_ | refine Al Aa ?_ | refine Af Aa ?_ | refine Ba Aa Ab hS ?_ | refine Ag Aa ?_ | refine Ae Aa ?_ | refine Be Aa ?_ | refine Bd Aa ?_ | refine Ak Aa ?_ | refine Aj Aa ?_ | refine Aw Aa (fun hc => ?_) (fun hc => ?_)) <;> refine Ad ?_)) | ((fail_if_success (with_reducible refine Ac ?_)); first | go_step | go_step3 | rw [Exit.noGoto_normal] | rw [Exit.noGoto_ret] | rw [Exit.noGoto_exit]))
          refine Bv 9 (by kernel_rfl) (by kernel_rfl) ?_
          dsimp only [List.take, List.drop]
          iterate 9 (first | (refine Dc (fun _ => rfl) ?_; simp only [Act.put, List.setIfInBounds_toArray, List.set_cons_zero, List.set_cons_succ]) | (refine Cw (by rfl) (fun _ => rfl) _ (fun w => r_alloc (a := ⟨#[], []⟩) rfl (by infer_instance)) ?_; simp only [Act.put, List.setIfInBounds_toArray, List.set_cons_zero, List.set_cons_succ]) | (refine Cr rfl (fun _ => rfl) (fun K hK => ?_); apply Exists.intro; apply Exists.intro; apply Exists.intro; apply Exists.intro; refine ⟨fun pB w' hw' hF => ?_, hK _ _ ?_⟩; (focus (exact Cf (by rfl) (by rfl) (by infer_instance) (by rfl) (by repeat (first | exact (fun _ h => absurd h List.not_mem_nil) | refine List.forall_mem_cons.2 ⟨by first | rfl | (simp only [Value.cells]; first | rfl | omega), ?_⟩)) (by (try conv => lhs; simp only [List.flatMap_cons, List.flatMap_nil, Value.cells, List.append_nil, List.cons_append, List.nil_append]); first | done | rfl) (by decide) (by decide))); clear hK K; simp only [Act.put, List.setIfInBounds_toArray, List.set_cons_zero, List.set_cons_succ]) | (refine Dd (fun _ => rfl) (fun K hK => ?_); apply Exists.intro; refine ⟨fun pB w' hw' hF => ?_, hK _ _ ?_⟩; (focus (have hZ := (Ab).call hS hw'; first | exact (Cn (r_nePt lC lE (by rfl) (by rfl) (by rfl) (by kernel_rfl) hq)) | exact q_move | exact Dh | exact q_load1 Ab hZ (hv := by first | rfl | exact Bi | (rw [Array.getElem?_toList]; first | exact c2 | exact d2)) | exact q_load1F (by first | exact ((hZ).far hb1).1) (hv := by first | rfl | exact Bi | (rw [Array.getElem?_toList]; first | exact c2 | exact d2)) | exact q_load1F (by first | exact ((hZ).far hb2).1) (hv := by first | rfl | exact Bi | (rw [Array.getElem?_toList]; first | exact c2 | exact d2)) | exact q_loadR Ab hZ (hv := by first | exact Bo _ _ (by (try simp only [Bn, Bg, Bm, List.length_append, List.length_set, zs_len, List.length_take, List.length_drop, List.length_cons, List.length_nil]); first | done | rfl | omega) | (first | exact c2 | exact d2) | rfl) | exact q_loadRF (by first | exact ((hZ).far hb1).1) (hv := by first | exact Bo _ _ (by (try simp only [Bn, Bg, Bm, List.length_append, List.length_set, zs_len, List.length_take, List.length_drop, List.length_cons, List.length_nil]); first | done | rfl | omega) | (first | exact c2 | exact d2) | rfl) | exact q_loadRF (by first | exact ((hZ).far hb2).1) (hv := by first | exact Bo _ _ (by (try simp only [Bn, Bg, Bm, List.length_append, List.length_set, zs_len, List.length_take, List.length_drop, List.length_cons, List.length_nil]); first | done | rfl | omega) | (first | exact c2 | exact d2) | rfl) | exact Ci | exact Cb | exact q_len | exact q_cap | exact Cy | exact q_add | exact q_sub | exact q_mul | exact q_quo | exact q_rem | exact q_cmp_t | exact q_cmp_f | exact De | exact Cx | exact Df | exact Cv | exact Ch | exact Di (hv' := by first | rfl | exact Bi | (rw [Array.getElem?_toList]; first | exact c2 | exact d2)) | exact Dg | exact Cm | exact Co | exact Bt | exact Cl | exact q_conv | exact q_pick | exact q_not | exact Db | exact Ct | exact Cc | exact Dk | exact Dl | exact Cs)); clear hK K; simp only [Act.put, List.setIfInBounds_toArray, List.set_cons_zero, List.set_cons_succ]))
          refine wpM_nil ?_
          intro pB w hcq hfq hnq
          replace hS := (Ab).news hS hcq _ (by first | decide | simp) hfq hnq
          first | simp only [List.map_nil, List.nil_append] at hS | simp only [List.map_cons, List.map_nil, List.cons_append, List.nil_append] at hS
          clear hcq hfq hnq
          try dsimp only
          repeat' (first | ((with_reducible refine Ac ?_); first | ((first | refine Ai Aa ?_ | refine Al Aa ?_ | refine Af Aa ?_ | refine Ba Aa Ab hS ?_ | refine Ag Aa ?_ | refine Ae Aa ?_ | refine Be Aa ?_ | refine Bd Aa ?_ | refine Ak Aa ?_ | refine Aj Aa ?_ | refine Aw Aa (fun hc => ?_) (fun hc => ?_)) <;> refine Ad ?_)) | ((fail_if_success (with_reducible refine Ac ?_)); first | go_step | go_step3 | rw [Exit.noGoto_normal] | rw [Exit.noGoto_ret] | rw [Exit.noGoto_exit]))
          go_roundw
          case rel => exact ⟨k + 1, by omega, by push_cast; rfl, by rw [ta, tb, htk, he.1, he.2], hS⟩
          case measure => first | (simp [intOf]; done) | (simp [intOf]; omega)
        · have hq : (!(a == b && C == E)) = true := by simp only [Bool.not_eq_true', Bool.and_eq_false_iff, beq_eq_false_iff_ne]; by_cases h1 : a = b; exact .inr (fun h2 => he ⟨h1, h2⟩); exact .inl h1
          obtain rfl := hF fun h => by
            rw [h, hy] at hx
            cases hx
            exact he ⟨rfl, rfl⟩
          repeat' (first | ((with_reducible refine Ac ?_); first | ((first | refine Ai Aa ?_ | refine Al Aa ?_ | refine Af Aa ?_ | refine Ba Aa Ab hS ?_ | refine Ag Aa ?_ | refine Ae Aa ?_ | refine Be Aa ?_ | refine Bd Aa ?_ | refine Ak Aa ?_ | refine Aj Aa ?_ | refine Aw Aa (fun hc => ?_) (fun hc => ?_)) <;> refine Ad ?_)) | ((fail_if_success (with_reducible refine Ac ?_)); first | go_step | go_step3 | rw [Exit.noGoto_normal] | rw [Exit.noGoto_ret] | rw [Exit.noGoto_exit]))
          refine Bv 9 (by kernel_rfl) (by kernel_rfl) ?_
          dsimp only [List.take, List.drop]
          iterate 9 (first | (refine Dc (fun _ => rfl) ?_; simp only [Act.put, List.setIfInBounds_toArray, List.set_cons_zero, List.set_cons_succ]) | (refine Cw (by rfl) (fun _ => rfl) _ (fun w => r_alloc (a := ⟨#[], []⟩) rfl (by infer_instance)) ?_; simp only [Act.put, List.setIfInBounds_toArray, List.set_cons_zero, List.set_cons_succ]) | (refine Cr rfl (fun _ => rfl) (fun K hK => ?_); apply Exists.intro; apply Exists.intro; apply Exists.intro; apply Exists.intro; refine ⟨fun pB w' hw' hF => ?_, hK _ _ ?_⟩; (focus (exact Cf (by rfl) (by rfl) (by infer_instance) (by rfl) (by repeat (first | exact (fun _ h => absurd h List.not_mem_nil) | refine List.forall_mem_cons.2 ⟨by first | rfl | (simp only [Value.cells]; first | rfl | omega), ?_⟩)) (by (try conv => lhs; simp only [List.flatMap_cons, List.flatMap_nil, Value.cells, List.append_nil, List.cons_append, List.nil_append]); first | done | rfl) (by decide) (by decide))); clear hK K; simp only [Act.put, List.setIfInBounds_toArray, List.set_cons_zero, List.set_cons_succ]) | (refine Dd (fun _ => rfl) (fun K hK => ?_); apply Exists.intro; refine ⟨fun pB w' hw' hF => ?_, hK _ _ ?_⟩; (focus (have hZ := (Ab).call hS hw'; first | exact (Cn (r_nePt lC lE (by rfl) (by rfl) (by rfl) (by kernel_rfl) hq)) | exact q_move | exact Dh | exact q_load1 Ab hZ (hv := by first | rfl | exact Bi | (rw [Array.getElem?_toList]; first | exact c2 | exact d2)) | exact q_load1F (by first | exact ((hZ).far hb1).1) (hv := by first | rfl | exact Bi | (rw [Array.getElem?_toList]; first | exact c2 | exact d2)) | exact q_load1F (by first | exact ((hZ).far hb2).1) (hv := by first | rfl | exact Bi | (rw [Array.getElem?_toList]; first | exact c2 | exact d2)) | exact q_loadR Ab hZ (hv := by first | exact Bo _ _ (by (try simp only [Bn, Bg, Bm, List.length_append, List.length_set, zs_len, List.length_take, List.length_drop, List.length_cons, List.length_nil]); first | done | rfl | omega) | (first | exact c2 | exact d2) | rfl) | exact q_loadRF (by first | exact ((hZ).far hb1).1) (hv := by first | exact Bo _ _ (by (try simp only [Bn, Bg, Bm, List.length_append, List.length_set, zs_len, List.length_take, List.length_drop, List.length_cons, List.length_nil]); first | done | rfl | omega) | (first | exact c2 | exact d2) | rfl) | exact q_loadRF (by first | exact ((hZ).far hb2).1) (hv := by first | exact Bo _ _ (by (try simp only [Bn, Bg, Bm, List.length_append, List.length_set, zs_len, List.length_take, List.length_drop, List.length_cons, List.length_nil]); first | done | rfl | omega) | (first | exact c2 | exact d2) | rfl) | exact Ci | exact Cb | exact q_len | exact q_cap | exact Cy | exact q_add | exact q_sub | exact q_mul | exact q_quo | exact q_rem | exact q_cmp_t | exact q_cmp_f | exact De | exact Cx | exact Df | exact Cv | exact Ch | exact Di (hv' := by first | rfl | exact Bi | (rw [Array.getElem?_toList]; first | exact c2 | exact d2)) | exact Dg | exact Cm | exact Co | exact Bt | exact Cl | exact q_conv | exact q_pick | exact q_not | exact Db | exact Ct | exact Cc | exact Dk | exact Dl | exact Cs)); clear hK K; simp only [Act.put, List.setIfInBounds_toArray, List.set_cons_zero, List.set_cons_succ]))
          refine wpM_nil ?_
          intro pB w hcq hfq hnq
          replace hS := (Ab).news hS hcq _ (by first | decide | simp) hfq hnq
          first | simp only [List.map_nil, List.nil_append] at hS | simp only [List.map_cons, List.map_nil, List.cons_append, List.nil_append] at hS
          clear hcq hfq hnq
          try dsimp only
          repeat' (first | ((with_reducible refine Ac ?_); first | ((first | refine Ai Aa ?_ | refine Al Aa ?_ | refine Af Aa ?_ | refine Ba Aa Ab hS ?_ | refine Ag Aa ?_ | refine Ae Aa ?_ | refine Be Aa ?_ | refine Bd Aa ?_ | refine Ak Aa ?_ | refine Aj Aa ?_ | refine Aw Aa (fun hc => ?_) (fun hc => ?_)) <;> refine Ad ?_)) | ((fail_if_success (with_reducible refine Ac ?_)); first | go_step | go_step3 | rw [Exit.noGoto_normal] | rw [Exit.noGoto_ret] | rw [Exit.noGoto_exit]))
          go_ret
          exact ⟨rfl, hS.below⟩
      · obtain rfl : k = n := by omega
        obtain rfl := hT (by rwa [List.take_of_length_le (by omega), List.take_of_length_le (by omega)] at htk)
        repeat' (first | ((with_reducible refine Ac ?_); first | ((first | refine Ai Aa ?_ | refine Al Aa ?_ | refine Af Aa ?_ | refine Ba Aa Ab hS ?_ | refine Ag Aa ?_ | refine Ae Aa ?_ | refine Be Aa ?_ | refine Bd Aa ?_ | refine Ak Aa ?_ | refine Aj Aa ?_ | refine Aw Aa (fun hc => ?_) (fun hc => ?_)) <;> refine Ad ?_)) | ((fail_if_success (with_reducible refine Ac ?_)); first | go_step | go_step3 | rw [Exit.noGoto_normal] | rw [Exit.noGoto_ret] | rw [Exit.noGoto_exit]))
        go_ret
        exact ⟨rfl, hS.below⟩
  · obtain rfl := hF fun h => hl (by rw [← hn, ← hm, h])
    go_enter Try.func21, Try.ntmps21
    repeat' (first | ((with_reducible refine Ac ?_); first | ((first | refine Ai Aa ?_ | refine Al Aa ?_ | refine Af Aa ?_ | refine Ba Aa Ab hS ?_ | refine Ag Aa ?_ | refine Ae Aa ?_ | refine Be Aa ?_ | refine Bd Aa ?_ | refine Ak Aa ?_ | refine Aj Aa ?_ | refine Aw Aa (fun hc => ?_) (fun hc => ?_)) <;> refine Ad ?_)) | ((fail_if_success (with_reducible refine Ac ?_)); first | go_step | go_step3 | rw [Exit.noGoto_normal] | rw [Exit.noGoto_ret] | rw [Exit.noGoto_exit]))
    go_ret
    exact ⟨rfl, hS.below⟩
end Go.Proofs.Ytcjncidahjneaaa

namespace Go.Proofs.Ytcjncidahjneaaa
open Go.ChangeShapes Go.WideShapes Go.ChangeAt Go.RowKit
end Go.Proofs.Ytcjncidahjneaaa

namespace Go.Proofs.Ytcjncidahjneaaa
open Go.ChangeShapes Go.WideShapes Go.ChangeAt Go.RowKit
theorem flat_at {α : Type} {f : α → List Value} {n : Nat} (hn : 0 < n) (hf : ∀ a, (f a).length = n) : ∀ {l : List α} {i : Nat} {x : Value}, (l.flatMap f)[i]? = some x → ∃ a, l[i / n]? = some a ∧ (f a)[i % n]? = some x
  | [], i, x, h => by simp at h
  | a :: l, i, x, h => by
    rw [List.flatMap_cons] at h
    by_cases hi : i < n
    · rw [List.getElem?_append_left (by rw [hf]; exact hi)] at h
      exact ⟨a, by rw [Nat.div_eq_of_lt hi]; rfl, by rw [Nat.mod_eq_of_lt hi]; exact h⟩
    · rw [List.getElem?_append_right (by rw [hf]; omega), hf] at h
      obtain ⟨b, h1, h2⟩ := flat_at hn hf h
      have e1 : i / n = (i - n) / n + 1 := by
        rw [← Nat.add_div_right _ hn, Nat.sub_add_cancel (by omega)]
      have e2 : i % n = (i - n) % n := by
        conv => lhs; rw [← Nat.sub_add_cancel (show n ≤ i by omega)]
        rw [Nat.add_mod_right]
      exact ⟨b, by rw [e1]; simpa using h1, by rw [e2]; exact h2⟩
/-- A slice of structs that came in, its elements all opened alike. -/
theorem open_gen {P : Program} {H : Type} {enc : TypeId × Value → H} {w : World} {base : Nat} {sp : Nat → Bool} {held : Bool} {t e n : Nat} {v : Value} {d : DataW H} {p : List MemPlace} {α : Type} (z : α) (f : α → List Value)
    (ht : P.underlying t = some (.slice e)) (hc : P.cellsOf e = n) (hn : 0 < n) (hf : ∀ a, (f a).length = n) (hopen : ∀ fuel cs x, DataW.trod enc P w base sp held fuel e cs = some x → cs.length = n → ∃ a, cs = f a)
    (hv : ∃ a len cap, v = .slice a len cap) (hr : DataW.Trod enc P w base sp held t v d p) :
    ∃ l : List α, (∃ p c, v = .slice p l.length c ∧ l.length ≤ c ∧ (p = none → c = 0) ∧ (l ≠ [] → ∃ b o cs t fr, p = some ⟨b, o, none⟩ ∧ blk w b = some (.cells cs t fr) ∧ ∀ i x, (l.flatMap f)[i]? = some x → cs.toList[o + i]? = some x)) ∧ l.length ≤ maxLen := by
  obtain ⟨a0, len0, cap0, rfl⟩ := hv
  obtain ⟨fuel, hfu⟩ := hr
  rcases Go.Deep.open_slice ht hfu with ⟨hcs, _⟩ | ⟨a, len, cap, m, n2, D, Pl, hcs, _, hlc, hcm, hm, _, hx⟩
  · simp only [Value.cells, List.cons.injEq, Value.slice.injEq, and_true] at hcs
    obtain ⟨rfl, rfl, rfl⟩ := hcs
    exact ⟨[], ⟨none, 0, rfl, Nat.le_refl _, fun _ => rfl, fun h => absurd rfl h⟩, by simp⟩
  · simp only [Value.cells, List.cons.injEq, Value.slice.injEq, and_true] at hcs
    obtain ⟨rfl, rfl, rfl⟩ := hcs
    have hlm : len0 ≤ m := by rw [hm]; split <;> omega
    have key : ∀ i, i < len0 → ∃ x : α, ∀ j, j < n → w.cell? ((a.add (i * n)).add j) = (f x)[j]? := by
      intro i hi
      obtain ⟨cs', h1, h2⟩ := hx i (by omega)
      rw [hc] at h1
      have h3 := World.cells?_some h1
      obtain ⟨x, rfl⟩ := hopen _ _ _ h2 h3.2.1
      exact ⟨x, h3.2.2⟩
    refine ⟨(List.range len0).map fun i => if hi : i < len0 then (key i hi).choose else z, ⟨some a, cap0, by simp, by simp; omega, (fun h => by cases h), fun hne => ?_⟩, by simp; omega⟩
    have h0 : 0 < len0 := by
      rcases Nat.eq_zero_or_pos len0 with rfl | h
      · exact absurd rfl hne
      · exact h
    obtain ⟨x0, hk0⟩ := key 0 h0
    have hk1 := hk0 0 hn
    rw [Nat.zero_mul, show a.add 0 = a by simp [Addr.add], show a.add 0 = a by simp [Addr.add], List.getElem?_eq_getElem (by rw [hf]; exact hn)] at hk1
    obtain ⟨b, o, cs, t2, e2, rfl, hb, _⟩ := blk_of_cell hk1
    refine ⟨b, o, cs, t2, e2, rfl, hb, fun i x hi => ?_⟩
    obtain ⟨q, h1, h2⟩ := flat_at hn hf hi
    have hil : i / n < len0 := by have := (List.getElem?_eq_some_iff.1 h1).1; simpa using this
    have hq : q = (key (i / n) hil).choose := by
      simp [hil] at h1
      exact h1.symm
    have h3 := (key (i / n) hil).choose_spec (i % n) (Nat.mod_lt _ hn)
    rw [← hq, h2, add_addr, add_addr, cell_of_row w b _ cs t2 e2 hb] at h3
    rw [Array.getElem?_toList, ← h3]
    congr 1
    have := Nat.div_add_mod i n
    rw [Nat.mul_comm] at this
    omega
end Go.Proofs.Ytcjncidahjneaaa

namespace Go.Proofs.Ytcjncidahjneaaa
open Go.ChangeShapes Go.WideShapes Go.ChangeAt Go.RowKit
open Go.ChangeShapes Go.WideShapes Go.ChangeAt Go.RowKit
theorem trod_bytes8 {P : Program} {H : Type} {enc : TypeId × Value → H} {w : World} {base fuel : Nat} {sp : Nat → Bool} {held : Bool} {t e : Nat} {cs : List Value} {x : DataW H × List MemPlace}
    (ht : P.underlying t = some (.slice e)) (he : P.underlying e = some (.int .u8)) (hc : P.cellsOf e = 1) (hf : DataW.trod enc P w base sp held fuel t cs = some x) : ∃ v l, cs = [v] ∧ BytesAt w v l ∧ l.length ≤ maxLen := by
  have hv : ∃ a n c, cs = [.slice a n c] := by
    rcases Go.Deep.open_slice1 ht hc hf with ⟨hcs, _⟩ | ⟨a, len, cap, m, n2, V, D, Pl, hcs, _⟩
    · exact ⟨_, _, _, hcs⟩
    · exact ⟨_, _, _, hcs⟩
  obtain ⟨a, n, c, rfl⟩ := hv
  obtain ⟨l, h1, h2⟩ := open_bytes (v := .slice a n c) (d := x.1) (p := x.2) ht he hc ⟨_, _, _, rfl⟩ ⟨fuel, hf⟩
  exact ⟨_, l, rfl, h1, h2⟩
theorem trod_int1 {P : Program} {H : Type} {enc : TypeId × Value → H} {w : World} {base fuel : Nat} {sp : Nat → Bool} {held : Bool} {t : Nat} {k : IntKind} {cs : List Value} {x : DataW H × List MemPlace}
    (ht : P.underlying t = some (.int k)) (hf : DataW.trod enc P w base sp held fuel t cs = some x) : ∃ n, cs = [.int k n] ∧ (Lit.int k n).wf = true := by
  obtain ⟨n, h1, _, h3⟩ := DataW.trod_int ht hf
  exact ⟨n, h1, h3⟩
end Go.Proofs.Ytcjncidahjneaaa

namespace Go.Proofs.Ytcjncidahjneaaa
open Go.ChangeShapes Go.WideShapes Go.ChangeAt Go.RowKit
theorem int_range {n : Int} (wf : (Lit.int .i64 n).wf = true) : -9223372036854775808 ≤ n ∧ n ≤ 9223372036854775807 := by
  have q1 : IntKind.i64.min = -9223372036854775808 := rfl
  have q2 : IntKind.i64.max = 9223372036854775807 := rfl
  simp only [Lit.wf, Bool.and_eq_true, decide_eq_true_eq] at wf
  omega
theorem two_cells {L : List Value} {a b : Value} (h : L.length = 2) (h0 : (L.drop 0).take 1 = [a]) (h1 : (L.drop 1).take 1 = [b]) : L = [a, b] := by
  match L, h with
  | [a', b'], _ => simp at h0 h1; simp [h0, h1]
/-- What a row's two cells hold. -/
def RowT2 (w : World) : Type := { x : Int × Value // (-9223372036854775808 ≤ x.1 ∧ x.1 ≤ 9223372036854775807) ∧ ∃ l, BytesAt w x.2 l ∧ l.length ≤ maxLen }
def cellsT2 {w : World} (x : RowT2 w) : List Value := [.int .i64 x.1.1, x.1.2]
set_option maxRecDepth 100000
theorem cells_row : Try.prog.cellsOf 93 = 2 := by kernel_rfl
theorem open_row {H : Type} {enc : TypeId × Value → H} {w : World} {base fuel : Nat} {sp : Nat → Bool} {held : Bool} {cs : List Value} {x : DataW H × List MemPlace}
    (hf : DataW.trod enc Try.prog w base sp held fuel 93 cs = some x) (hsz : cs.length = 2) : ∃ a : RowT2 w, cs = cellsT2 a := by
  obtain ⟨xs, n, rfl, hx, hl, hxl, hi⟩ := DataW.trod_struct Try.underlying93 hf
  have hxl5 : xs.length = 2 := hxl
  have g (i : Nat) (h : i < 2) : xs[i]? = some xs[i] := List.getElem?_eq_getElem (by omega)
  have h0 := (hi 0 _ rfl).trans (g 0 (by omega))
  have h1 := (hi 1 _ rfl).trans (g 1 (by omega))
  obtain ⟨x0, e0, wf⟩ := trod_int1 Try.underlying3 h0
  obtain ⟨v1, l1, e1, hb, hm⟩ := trod_bytes8 Try.underlying22 Try.underlying5 (by kernel_rfl) h1
  exact ⟨⟨(x0, v1), int_range wf, l1, hb, hm⟩, two_cells hsz e0 e1⟩
theorem t2_at {w : World} : ∀ {l : List (RowT2 w)} {i : Nat} {x : RowT2 w}, l[i]? = some x → (l.flatMap cellsT2)[i * 2]? = some (.int .i64 x.1.1) ∧ (l.flatMap cellsT2)[i * 2 + 1]? = some x.1.2
  | [], i, x, h => by simp at h
  | y :: l, 0, x, h => by simp at h; subst h; simp [cellsT2]
  | y :: l, i + 1, x, h => by
    have ih := t2_at (l := l) (i := i) (x := x) (by simpa using h)
    rw [List.flatMap_cons]
    have e : (cellsT2 y).length = 2 := rfl
    rw [List.getElem?_append_right (by omega), List.getElem?_append_right (by omega), e, show (i + 1) * 2 - 2 = i * 2 by omega, show (i + 1) * 2 + 1 - 2 = i * 2 + 1 by omega]
    exact ih
theorem open_rws {H : Type} {enc : TypeId × Value → H} {w : World} {base : Nat} {sp : Nat → Bool} {held : Bool} {v : Value} {d : DataW H} {p : List MemPlace}
    (hv : ∃ a len cap, v = .slice a len cap) (hr : DataW.Trod enc Try.prog w base sp held 42 v d p) : ∃ l : List Rw, RwAt w v l ∧ l.length ≤ maxLen := by
  obtain ⟨l, ⟨p, c, h1, h2, h3, h4⟩, hm⟩ := open_gen (z := (⟨(0, .slice none 0 0), ⟨by decide, by decide⟩, [], ⟨none, 0, rfl, Nat.le_refl _, fun _ => rfl, fun h => absurd rfl h⟩, by simp⟩ : RowT2 w)) cellsT2 Try.underlying42 cells_row (by omega) (fun _ => rfl) (fun _ _ _ hf hl => open_row hf hl) hv hr
  have hlen : (l.map fun x => ((x.1.1, x.2.2.choose) : Rw)).length = l.length := by rw [List.length_map]
  have key : ∀ (i : Nat) (a : Int) (x : List UInt8), (l.map fun x => ((x.1.1, x.2.2.choose) : Rw))[i]? = some (a, x) → ∃ y, l[i]? = some y ∧ y.1.1 = a ∧ BytesAt w y.1.2 x := by
    intro i a x hi
    rw [List.getElem?_map] at hi
    cases hy : l[i]? with
    | none => rw [hy] at hi; cases hi
    | some y =>
      rw [hy] at hi
      simp only [Option.map_some, Option.some.injEq, Prod.mk.injEq] at hi
      exact ⟨y, rfl, hi.1, by rw [← hi.2]; exact y.2.2.choose_spec.1⟩
  refine ⟨l.map fun x => (x.1.1, x.2.2.choose), ⟨l.map fun x => x.1.2, fun i a x hi => ?_, p, c, by rw [hlen]; exact h1, by rw [hlen]; exact h2, h3, fun hne => ?_⟩, by rw [hlen]; exact hm⟩
  · obtain ⟨y, e1, e2, e3⟩ := key i a x hi
    exact ⟨y.1.2, by rw [List.getElem?_map, e1]; rfl, e3, by rw [← e2]; exact y.2.1⟩
  · obtain ⟨b, o, cs, t, fr, h5, h6, h7⟩ := h4 (by intro e; exact hne (by rw [e]; rfl))
    refine ⟨b, o, cs, t, fr, h5, h6, fun i a x sv hi hs => ?_⟩
    obtain ⟨y, e1, e2, e3⟩ := key i a x hi
    rw [List.getElem?_map, e1] at hs
    simp only [Option.map_some, Option.some.injEq] at hs
    obtain ⟨f1, f2⟩ := t2_at e1
    have g1 := h7 _ _ f1
    have g2 := h7 _ _ f2
    rw [Array.getElem?_toList] at g1 g2
    rw [← hs, ← e2, Nat.add_assoc]
    exact ⟨g1, g2⟩
end Go.Proofs.Ytcjncidahjneaaa
