/-
  Laws that the claims of this seat use, of several texts in one: Rd5. No condition of their own.
-/
import Derived.Test.YtcjncidahjneaaaJI0

namespace Go.Proofs.Ytcjncidahjneaaa
open Go.ChangeShapes Go.WideShapes Go.ChangeAt Go.RowKit
attribute [local irreducible] wpList wpListIn Oper.quietAt wpM
theorem sound_left {l : List Pt} {k : Nat} {x : Pt} (hx : l[k]? = some x) (h : soundP l) : (∀ j y, j < k → l[j]? = some y → ¬ y.1 = x.1) ∧ inR x.1 := by
  refine ⟨fun j y hj hy he => ?_, h.2.1 _ (List.mem_of_getElem? hx)⟩
  have h1 : (l.map (·.1))[j]? = some y.1 := by rw [List.getElem?_map, hy]; rfl
  have h2 : (l.map (·.1))[k]? = some x.1 := by rw [List.getElem?_map, hx]; rfl
  have hjl := (List.getElem?_eq_some_iff.1 h1).1
  have hkl := (List.getElem?_eq_some_iff.1 h2).1
  have h3 := (List.getElem?_eq_some_iff.1 h1).2
  have h4 := (List.getElem?_eq_some_iff.1 h2).2
  have := (List.nodup_iff_pairwise_ne.1 h.1)
  exact (List.pairwise_iff_getElem.1 this) j k hjl hkl hj (by rw [h3, h4, he])
theorem sound_next {l : List Pt} {k : Nat} {x : Pt} (hx : l[k]? = some x) (h1 : ((l.take k).map (·.1)).Nodup) (h2 : ∀ y ∈ l.take k, inR y.1) (h3 : ∀ j y, j < k → l[j]? = some y → ¬ y.1 = x.1) (h4 : inR x.1) : ((l.take (k + 1)).map (·.1)).Nodup ∧ ∀ y ∈ l.take (k + 1), inR y.1 := by
  have htk : l.take (k + 1) = l.take k ++ [x] := by rw [List.take_add_one, hx]; rfl
  have hkl := (List.getElem?_eq_some_iff.1 hx).1
  constructor
  · rw [htk, List.map_append, List.nodup_append]
    refine ⟨h1, by simp, fun a ha b hb => ?_⟩
    simp at hb
    subst hb
    obtain ⟨y, hy, rfl⟩ := List.mem_map.1 ha
    obtain ⟨j, hj⟩ := List.getElem?_of_mem hy
    rw [List.getElem?_take] at hj
    split at hj
    · rename_i hjk; exact h3 j y hjk hj
    · cases hj
  · intro y hy
    rw [htk, List.mem_append] at hy
    rcases hy with h | h
    · exact h2 y h
    · simp at h; subst h; exact h4
set_option maxRecDepth 100000 in
set_option maxHeartbeats 4000000 in
theorem rdGood_any (n : Int) (l : List Pt) (hl : l.length ≤ 1000) (v : Value) (w0 : World) (hv : PutsAt w0 v l) :
    Calls Try.prog 43 #[.int .i64 n, v] w0 fun e w' => ∃ b, e = .returned (.bool b) ∧ (b = true ↔ 0 ≤ n ∧ soundP l) ∧ Below w0.heap.size w0 w' := by
  obtain ⟨ho, p, c, rfl, hc, hp0, hcell⟩ := hv
  have hS := St.start w0
  obtain ⟨q, hq⟩ : ∃ q, l.length = q := ⟨_, rfl⟩
  rw [hq] at hl hc ⊢
  by_cases hn : n < 0
  · go_enter Try.func43, Try.ntmps43
    repeat' (first | ((with_reducible refine Ac ?_); first | ((first | refine Ai Aa ?_ | refine Al Aa ?_ | refine Af Aa ?_ | refine Av Aa Ab hS ?_ | refine Ag Aa ?_ | refine Ae Aa ?_ | refine Be Aa ?_ | refine Bd Aa ?_ | refine Ak Aa ?_ | refine Aj Aa ?_ | refine Aw Aa (fun hc => ?_) (fun hc => ?_) | refine Az Aa ?_ | refine Bk Aa ?_) <;> refine Ad ?_)) | ((fail_if_success (with_reducible refine Ac ?_)); first | go_step | go_step3 | rw [Exit.noGoto_normal] | rw [Exit.noGoto_ret] | rw [Exit.noGoto_exit]))
    go_ret
    exact ⟨false, rfl, by simp; intro h; omega, hS.below⟩
  by_cases h56 : 56 < q
  · go_enter Try.func43, Try.ntmps43
    repeat' (first | ((with_reducible refine Ac ?_); first | ((first | refine Ai Aa ?_ | refine Al Aa ?_ | refine Af Aa ?_ | refine Av Aa Ab hS ?_ | refine Ag Aa ?_ | refine Ae Aa ?_ | refine Be Aa ?_ | refine Bd Aa ?_ | refine Ak Aa ?_ | refine Aj Aa ?_ | refine Aw Aa (fun hc => ?_) (fun hc => ?_) | refine Az Aa ?_ | refine Bk Aa ?_) <;> refine Ad ?_)) | ((fail_if_success (with_reducible refine Ac ?_)); first | go_step | go_step3 | rw [Exit.noGoto_normal] | rw [Exit.noGoto_ret] | rw [Exit.noGoto_exit]))
    go_ret
    exact ⟨false, rfl, by simp; intro h hh; have := hh.2.2; omega, hS.below⟩
  go_enter Try.func43, Try.ntmps43
  repeat' (first | ((with_reducible refine Ac ?_); first | ((first | refine Ai Aa ?_ | refine Al Aa ?_ | refine Af Aa ?_ | refine Av Aa Ab hS ?_ | refine Ag Aa ?_ | refine Ae Aa ?_ | refine Be Aa ?_ | refine Bd Aa ?_ | refine Ak Aa ?_ | refine Aj Aa ?_ | refine Aw Aa (fun hc => ?_) (fun hc => ?_) | refine Az Aa ?_ | refine Bk Aa ?_) <;> refine Ad ?_)) | ((fail_if_success (with_reducible refine Ac ?_)); first | go_step | go_step3 | rw [Exit.noGoto_normal] | rw [Exit.noGoto_ret] | rw [Exit.noGoto_exit]))
  go_loopw [5, 6] (fun u5 u6 wr => ∃ k : Nat, k ≤ q ∧ u5 = .int .i64 (k : Int) ∧ ((l.take k).map (·.1)).Nodup ∧ (∀ x ∈ l.take k, inR x.1) ∧ St w0 wr []) (fun u5 _ _ => q - (intOf u5).toNat)
  case atStart => exact ⟨0, by omega, rfl, by simp, by simp, hS⟩
  case round =>
    clear hS
    obtain ⟨k, hk, rfl, hnd, hin, hS⟩ := hrel
    by_cases hlt : k < q
    · obtain ⟨⟨a, C⟩, hx⟩ : ∃ x, l[k]? = some x := ⟨_, List.getElem?_eq_getElem (by omega)⟩
      obtain ⟨b, o, cs, ty, fr, rfl, hb, hcc⟩ := hcell (by intro e; rw [e] at hq; simp at hq; omega)
      obtain ⟨lC, c1, c2, c3, c4⟩ := put_cells ho hcc hx
      have hlf := sound_left hx
      by_cases hlow : a < 0
      · have hns : ¬ soundP l := fun h => absurd (hlf h).2.1 (by dsimp only; omega)
        repeat' (first | ((with_reducible refine Ac ?_); first | ((first | refine Ai Aa ?_ | refine Al Aa ?_ | refine Af Aa ?_ | refine Av Aa Ab hS ?_ (hv := by first | rfl | exact Bi | (rw [Array.getElem?_toList]; exact c3)) | refine Bs Aa (by first | exact ((hS).far hb).1) ?_ (hv := by first | rfl | exact Bi | (rw [Array.getElem?_toList]; exact c3)) | refine Ag Aa ?_ | refine Ae Aa ?_ | refine Be Aa ?_ | refine Bd Aa ?_ | refine Ak Aa ?_ | refine Aj Aa ?_ | refine Aw Aa (fun hc => ?_) (fun hc => ?_) | refine Az Aa ?_ | refine Bk Aa ?_) <;> refine Ad ?_)) | ((fail_if_success (with_reducible refine Ac ?_)); first | go_step | go_step3 | rw [Exit.noGoto_normal] | rw [Exit.noGoto_ret] | rw [Exit.noGoto_exit]))
        go_ret
        exact ⟨false, rfl, by simp; exact fun _ => hns, hS.below⟩
      by_cases hhigh : 65535 < a
      · have hns : ¬ soundP l := fun h => absurd (hlf h).2.2 (by dsimp only; omega)
        repeat' (first | ((with_reducible refine Ac ?_); first | ((first | refine Ai Aa ?_ | refine Al Aa ?_ | refine Af Aa ?_ | refine Av Aa Ab hS ?_ (hv := by first | rfl | exact Bi | (rw [Array.getElem?_toList]; exact c3)) | refine Bs Aa (by first | exact ((hS).far hb).1) ?_ (hv := by first | rfl | exact Bi | (rw [Array.getElem?_toList]; exact c3)) | refine Ag Aa ?_ | refine Ae Aa ?_ | refine Be Aa ?_ | refine Bd Aa ?_ | refine Ak Aa ?_ | refine Aj Aa ?_ | refine Aw Aa (fun hc => ?_) (fun hc => ?_) | refine Az Aa ?_ | refine Bk Aa ?_) <;> refine Ad ?_)) | ((fail_if_success (with_reducible refine Ac ?_)); first | go_step | go_step3 | rw [Exit.noGoto_normal] | rw [Exit.noGoto_ret] | rw [Exit.noGoto_exit]))
        go_ret
        exact ⟨false, rfl, by simp; exact fun _ => hns, hS.below⟩
      have hinx : inR a := ⟨by omega, by omega⟩
      repeat' (first | ((with_reducible refine Ac ?_); first | ((first | refine Ai Aa ?_ | refine Al Aa ?_ | refine Af Aa ?_ | refine Av Aa Ab hS ?_ (hv := by first | rfl | exact Bi | (rw [Array.getElem?_toList]; exact c3)) | refine Bs Aa (by first | exact ((hS).far hb).1) ?_ (hv := by first | rfl | exact Bi | (rw [Array.getElem?_toList]; exact c3)) | refine Ag Aa ?_ | refine Ae Aa ?_ | refine Be Aa ?_ | refine Bd Aa ?_ | refine Ak Aa ?_ | refine Aj Aa ?_ | refine Aw Aa (fun hc => ?_) (fun hc => ?_) | refine Az Aa ?_ | refine Bk Aa ?_) <;> refine Ad ?_)) | ((fail_if_success (with_reducible refine Ac ?_)); first | go_step | go_step3 | rw [Exit.noGoto_normal] | rw [Exit.noGoto_ret] | rw [Exit.noGoto_exit]))
      go_loopw [6] (fun u6 wr => ∃ j : Nat, j ≤ k ∧ u6 = .int .i64 (j : Int) ∧ (∀ i y, i < j → l[i]? = some y → ¬ y.1 = a) ∧ St w0 wr []) (fun u6 _ => k - (intOf u6).toNat)
      case atStart => exact ⟨0, by omega, rfl, fun i y h => absurd h (by omega), hS⟩
      case round =>
        clear hS
        obtain ⟨j, hj, rfl, hne, hS⟩ := hrel
        by_cases hjl : j < k
        · obtain ⟨⟨a2, C2⟩, hx2⟩ : ∃ x, l[j]? = some x := ⟨_, List.getElem?_eq_getElem (by omega)⟩
          obtain ⟨lC2, f1, f2, f3, f4⟩ := put_cells ho hcc hx2
          by_cases heq : a2 = a
          · have hns : ¬ soundP l := fun h => (hlf h).1 j _ hjl hx2 heq
            subst heq
            repeat' (first | ((with_reducible refine Ac ?_); first | ((first | refine Ai Aa ?_ | refine Al Aa ?_ | refine Af Aa ?_ | refine Av Aa Ab hS ?_ | refine Ag Aa ?_ | refine Ae Aa ?_ | refine Be Aa ?_ | refine Bd Aa ?_ | refine Ak Aa ?_ | refine Aj Aa ?_ | refine Aw Aa (fun hc => ?_) (fun hc => ?_) | refine Az Aa ?_ | refine Bk Aa ?_) <;> refine Ad ?_)) | ((fail_if_success (with_reducible refine Ac ?_)); first | go_step | go_step3 | rw [Exit.noGoto_normal] | rw [Exit.noGoto_ret] | rw [Exit.noGoto_exit]))
            refine Bv 11 (by kernel_rfl) (by kernel_rfl) ?_
            dsimp only [List.take, List.drop]
            iterate 11 (first | (refine Dc (fun _ => rfl) ?_; simp only [Act.put, List.setIfInBounds_toArray, List.set_cons_zero, List.set_cons_succ]) | (refine Cw (by rfl) (fun _ => rfl) _ (fun w => r_alloc (a := ⟨#[], []⟩) rfl (by infer_instance)) ?_; simp only [Act.put, List.setIfInBounds_toArray, List.set_cons_zero, List.set_cons_succ]) | (refine Cr rfl (fun _ => rfl) (fun K hK => ?_); apply Exists.intro; apply Exists.intro; apply Exists.intro; apply Exists.intro; refine ⟨fun pB w' hw' hF => ?_, hK _ _ ?_⟩; (focus (exact Cf (by rfl) (by rfl) (by infer_instance) (by rfl) (by repeat (first | exact (fun _ h => absurd h List.not_mem_nil) | refine List.forall_mem_cons.2 ⟨by first | rfl | (simp only [Value.cells]; first | rfl | omega), ?_⟩)) (by (try conv => lhs; simp only [List.flatMap_cons, List.flatMap_nil, Value.cells, List.append_nil, List.cons_append, List.nil_append]); first | done | rfl) (by decide) (by decide))); clear hK K; simp only [Act.put, List.setIfInBounds_toArray, List.set_cons_zero, List.set_cons_succ]) | (refine Dd (fun _ => rfl) (fun K hK => ?_); apply Exists.intro; refine ⟨fun pB w' hw' hF => ?_, hK _ _ ?_⟩; (focus (have hZ := (Ab).call hS hw'; first | exact q_move | exact Dh | exact q_load1 Ab hZ (hv := by first | rfl | exact Bi | (rw [Array.getElem?_toList]; first | exact f3 | exact c3)) | exact q_load1F (by first | exact ((hZ).far hb).1) (hv := by first | rfl | exact Bi | (rw [Array.getElem?_toList]; first | exact f3 | exact c3)) | exact q_loadR Ab hZ (hv := by first | exact Bo _ _ (by (try simp only [Bn, Bg, Bm, List.length_append, List.length_set, zs_len, List.length_take, List.length_drop, List.length_cons, List.length_nil]); first | done | rfl | omega) | (first | exact f3 | exact c3) | rfl) | exact q_loadRF (by first | exact ((hZ).far hb).1) (hv := by first | exact Bo _ _ (by (try simp only [Bn, Bg, Bm, List.length_append, List.length_set, zs_len, List.length_take, List.length_drop, List.length_cons, List.length_nil]); first | done | rfl | omega) | (first | exact f3 | exact c3) | rfl) | exact Ci | exact Cb | exact q_len | exact q_cap | exact Cy | exact q_add | exact q_sub | exact q_mul | exact q_quo | exact q_rem | exact q_cmp_t | exact q_cmp_f | exact De | exact Cx | exact Df | exact Cv | exact Ch | exact Di (hv' := by first | rfl | exact Bi | (rw [Array.getElem?_toList]; first | exact f3 | exact c3)) | exact Dg | exact Cm | exact Co | exact Bt | exact Cl | exact q_conv | exact q_pick | exact q_not | exact Db | exact Ct | exact Cc | exact Dk | exact Dl | exact Cs)); clear hK K; simp only [Act.put, List.setIfInBounds_toArray, List.set_cons_zero, List.set_cons_succ]))
            refine wpM_nil ?_
            intro pB w hcq hfq hnq
            replace hS := (Ab).news hS hcq _ (by first | decide | simp) hfq hnq
            first | simp only [List.map_nil, List.nil_append] at hS | simp only [List.map_cons, List.map_nil, List.cons_append, List.nil_append] at hS
            clear hcq hfq hnq
            try dsimp only
            repeat' (first | ((with_reducible refine Ac ?_); first | ((first | refine Ai Aa ?_ | refine Al Aa ?_ | refine Af Aa ?_ | refine Av Aa Ab hS ?_ | refine Ag Aa ?_ | refine Ae Aa ?_ | refine Be Aa ?_ | refine Bd Aa ?_ | refine Ak Aa ?_ | refine Aj Aa ?_ | refine Aw Aa (fun hc => ?_) (fun hc => ?_) | refine Az Aa ?_ | refine Bk Aa ?_) <;> refine Ad ?_)) | ((fail_if_success (with_reducible refine Ac ?_)); first | go_step | go_step3 | rw [Exit.noGoto_normal] | rw [Exit.noGoto_ret] | rw [Exit.noGoto_exit]))
            go_ret
            exact ⟨false, rfl, by simp; exact fun _ => hns, hS.below⟩
          · repeat' (first | ((with_reducible refine Ac ?_); first | ((first | refine Ai Aa ?_ | refine Al Aa ?_ | refine Af Aa ?_ | refine Av Aa Ab hS ?_ | refine Ag Aa ?_ | refine Ae Aa ?_ | refine Be Aa ?_ | refine Bd Aa ?_ | refine Ak Aa ?_ | refine Aj Aa ?_ | refine Aw Aa (fun hc => ?_) (fun hc => ?_) | refine Az Aa ?_ | refine Bk Aa ?_) <;> refine Ad ?_)) | ((fail_if_success (with_reducible refine Ac ?_)); first | go_step | go_step3 | rw [Exit.noGoto_normal] | rw [Exit.noGoto_ret] | rw [Exit.noGoto_exit]))
            refine Bv 11 (by kernel_rfl) (by kernel_rfl) ?_
            dsimp only [List.take, List.drop]
            iterate 11 (first | (refine Dc (fun _ => rfl) ?_; simp only [Act.put, List.setIfInBounds_toArray, List.set_cons_zero, List.set_cons_succ]) | (refine Cw (by rfl) (fun _ => rfl) _ (fun w => r_alloc (a := ⟨#[], []⟩) rfl (by infer_instance)) ?_; simp only [Act.put, List.setIfInBounds_toArray, List.set_cons_zero, List.set_cons_succ]) | (refine Cr rfl (fun _ => rfl) (fun K hK => ?_); apply Exists.intro; apply Exists.intro; apply Exists.intro; apply Exists.intro; refine ⟨fun pB w' hw' hF => ?_, hK _ _ ?_⟩; (focus (exact Cf (by rfl) (by rfl) (by infer_instance) (by rfl) (by repeat (first | exact (fun _ h => absurd h List.not_mem_nil) | refine List.forall_mem_cons.2 ⟨by first | rfl | (simp only [Value.cells]; first | rfl | omega), ?_⟩)) (by (try conv => lhs; simp only [List.flatMap_cons, List.flatMap_nil, Value.cells, List.append_nil, List.cons_append, List.nil_append]); first | done | rfl) (by decide) (by decide))); clear hK K; simp only [Act.put, List.setIfInBounds_toArray, List.set_cons_zero, List.set_cons_succ]) | (refine Dd (fun _ => rfl) (fun K hK => ?_); apply Exists.intro; refine ⟨fun pB w' hw' hF => ?_, hK _ _ ?_⟩; (focus (have hZ := (Ab).call hS hw'; first | exact q_move | exact Dh | exact q_load1 Ab hZ (hv := by first | rfl | exact Bi | (rw [Array.getElem?_toList]; first | exact f3 | exact c3)) | exact q_load1F (by first | exact ((hZ).far hb).1) (hv := by first | rfl | exact Bi | (rw [Array.getElem?_toList]; first | exact f3 | exact c3)) | exact q_loadR Ab hZ (hv := by first | exact Bo _ _ (by (try simp only [Bn, Bg, Bm, List.length_append, List.length_set, zs_len, List.length_take, List.length_drop, List.length_cons, List.length_nil]); first | done | rfl | omega) | (first | exact f3 | exact c3) | rfl) | exact q_loadRF (by first | exact ((hZ).far hb).1) (hv := by first | exact Bo _ _ (by (try simp only [Bn, Bg, Bm, List.length_append, List.length_set, zs_len, List.length_take, List.length_drop, List.length_cons, List.length_nil]); first | done | rfl | omega) | (first | exact f3 | exact c3) | rfl) | exact Ci | exact Cb | exact q_len | exact q_cap | exact Cy | exact q_add | exact q_sub | exact q_mul | exact q_quo | exact q_rem | exact q_cmp_t | exact q_cmp_f | exact De | exact Cx | exact Df | exact Cv | exact Ch | exact Di (hv' := by first | rfl | exact Bi | (rw [Array.getElem?_toList]; first | exact f3 | exact c3)) | exact Dg | exact Cm | exact Co | exact Bt | exact Cl | exact q_conv | exact q_pick | exact q_not | exact Db | exact Ct | exact Cc | exact Dk | exact Dl | exact Cs)); clear hK K; simp only [Act.put, List.setIfInBounds_toArray, List.set_cons_zero, List.set_cons_succ]))
            refine wpM_nil ?_
            intro pB w hcq hfq hnq
            replace hS := (Ab).news hS hcq _ (by first | decide | simp) hfq hnq
            first | simp only [List.map_nil, List.nil_append] at hS | simp only [List.map_cons, List.map_nil, List.cons_append, List.nil_append] at hS
            clear hcq hfq hnq
            try dsimp only
            repeat' (first | ((with_reducible refine Ac ?_); first | ((first | refine Ai Aa ?_ | refine Al Aa ?_ | refine Af Aa ?_ | refine Av Aa Ab hS ?_ | refine Ag Aa ?_ | refine Ae Aa ?_ | refine Be Aa ?_ | refine Bd Aa ?_ | refine Ak Aa ?_ | refine Aj Aa ?_ | refine Aw Aa (fun hc => ?_) (fun hc => ?_) | refine Az Aa ?_ | refine Bk Aa ?_) <;> refine Ad ?_)) | ((fail_if_success (with_reducible refine Ac ?_)); first | go_step | go_step3 | rw [Exit.noGoto_normal] | rw [Exit.noGoto_ret] | rw [Exit.noGoto_exit]))
            go_roundw
            case rel => exact ⟨j + 1, by omega, by push_cast; rfl, fun i y hi hy => by
              rcases Nat.lt_or_eq_of_le (Nat.lt_succ_iff.1 hi) with h | h
              · exact hne i y h hy
              · subst h; rw [hx2] at hy; cases hy; exact heq, hS⟩
            case measure => first | (simp [intOf]; done) | (simp [intOf]; omega)
        · obtain rfl : j = k := by omega
          obtain ⟨g1, g2⟩ := sound_next hx hnd hin hne hinx
          repeat' (first | ((with_reducible refine Ac ?_); first | ((first | refine Ai Aa ?_ | refine Al Aa ?_ | refine Af Aa ?_ | refine Av Aa Ab hS ?_ | refine Ag Aa ?_ | refine Ae Aa ?_ | refine Be Aa ?_ | refine Bd Aa ?_ | refine Ak Aa ?_ | refine Aj Aa ?_ | refine Aw Aa (fun hc => ?_) (fun hc => ?_) | refine Az Aa ?_ | refine Bk Aa ?_) <;> refine Ad ?_)) | ((fail_if_success (with_reducible refine Ac ?_)); first | go_step | go_step3 | rw [Exit.noGoto_normal] | rw [Exit.noGoto_ret] | rw [Exit.noGoto_exit]))
          go_roundw
          case rel => exact ⟨j + 1, by omega, by push_cast; rfl, g1, g2, hS⟩
          case measure => first | (simp [intOf]; done) | (simp [intOf]; omega)
    · obtain rfl : k = q := by omega
      rw [List.take_of_length_le (by omega)] at hnd hin
      repeat' (first | ((with_reducible refine Ac ?_); first | ((first | refine Ai Aa ?_ | refine Al Aa ?_ | refine Af Aa ?_ | refine Av Aa Ab hS ?_ | refine Ag Aa ?_ | refine Ae Aa ?_ | refine Be Aa ?_ | refine Bd Aa ?_ | refine Ak Aa ?_ | refine Aj Aa ?_ | refine Aw Aa (fun hc => ?_) (fun hc => ?_) | refine Az Aa ?_ | refine Bk Aa ?_) <;> refine Ad ?_)) | ((fail_if_success (with_reducible refine Ac ?_)); first | go_step | go_step3 | rw [Exit.noGoto_normal] | rw [Exit.noGoto_ret] | rw [Exit.noGoto_exit]))
      go_ret
      exact ⟨true, rfl, by simp; exact ⟨by omega, hnd, hin, by omega⟩, hS.below⟩
end Go.Proofs.Ytcjncidahjneaaa
