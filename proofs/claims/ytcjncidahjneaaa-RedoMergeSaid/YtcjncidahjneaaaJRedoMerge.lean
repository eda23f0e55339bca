/-
  The law RedoMerge: for all rows it answers true. No condition.
-/
import Derived.Test.YtcjncidahjneaaaRows
import Derived.Test.YtcjncidahjneaaaJQ0

namespace Go.Proofs.Ytcjncidahjneaaa
open Go.ChangeShapes Go.WideShapes Go.ChangeAt Go.RowKit
attribute [local irreducible] wpList wpListIn Oper.quietAt wpM
attribute [local irreducible] rowP
theorem merge_ok {l R : List Pt} (ho : okP l) (h : IsMerge l R) : okP R := fun x hx => ho x (lastP_num ((h.2 x).1 hx)).2
theorem merge_len {l R : List Pt} (h : IsMerge l R) : R.length ≤ l.length := vpre_len (fun y hy => (h.2 y).1 hy) (by
  rw [List.Nodup, List.pairwise_map]
  exact h.1.imp fun {a b} h => by omega)
/-- The fixed puts. -/
theorem one_merge (Z C : List UInt8) : IsMerge [(2, Z), (1, Z), (2, C)] [(1, Z), (2, C)] := by
  refine ⟨by simp, fun x => ?_⟩
  obtain ⟨a, X⟩ := x
  unfold lastP
  simp only [List.reverse_cons, List.reverse_nil, List.nil_append, List.cons_append, List.find?_cons, List.find?_nil, List.mem_cons, Prod.mk.injEq, List.not_mem_nil, or_false]
  by_cases h2 : a = 2
  · subst h2
    simp [eq_comm]
  · by_cases h1 : a = 1
    · subst h1
      simp [eq_comm]
    · have e1 : ((2 : Int) == a) = false := by simpa using fun h => h2 h.symm
      have e2 : ((1 : Int) == a) = false := by simpa using fun h => h1 h.symm
      simp [e1, e2, h1, h2]
theorem c1_built : Try.prog.built 30 [(0, .int .u8 1)] = some (bvs (1 :: zs 127)) :=
  built_at (n := 1) (z := (zs 128).map bv) (by infer_instance) (fill_of (cs := (1 :: zs 127).map bv) (FillS.one (off := 0) rfl rfl (by rw [List.length_map, zs_len]; omega) (by kernel_rfl) FillS.nil))
theorem one_at {Z C : List UInt8} (hZ : Z.length = 128) (hC : C.getD 0 0 = 1) (hC2 : C.length = 128) (sp : List Value) : (([(1, Z), (2, C)] : List Pt).flatMap putC ++ sp).toArray[130]? = some (.int .u8 1) ∧ 258 ≤ csz (([(1, Z), (2, C)] : List Pt).flatMap putC ++ sp).toArray := by
  have e1 : (putC (1, Z)).length = 129 := by simp [putC, hZ]
  obtain ⟨x, C', rfl⟩ : ∃ x C', C = x :: C' := by
    cases C with
    | nil => simp at hC2
    | cons x C' => exact ⟨x, C', rfl⟩
  have hx : x = 1 := hC
  subst hx
  refine ⟨?_, ?_⟩
  · rw [List.getElem?_toArray, List.flatMap_cons, List.append_assoc, List.getElem?_append_right (by omega), e1]
    rfl
  · rw [Bm, List.flatMap_cons, List.flatMap_cons, List.length_append, List.length_append, List.length_append, e1]
    have : (putC (2, (1 : UInt8) :: C')).length = 129 := by simp [putC] at hC2 ⊢; omega
    omega
set_option maxRecDepth 100000 in
set_option maxHeartbeats 4000000 in
theorem redoMerge_any (l : List Rw) (v : Value) (w0 : World) (hv : RwAt w0 v l) :
    Calls Try.prog 9 #[v] w0 fun e w' => e = .returned (.bool true) ∧ Below w0.heap.size w0 w' := by
  have hS := St.start w0
  obtain ⟨vs, pp, hvs⟩ : ∃ p c, v = .slice p l.length c := by
    obtain ⟨vs, hvs, p, c, rfl, hc, hp0, hcell⟩ := hv
    exact ⟨_, _, rfl⟩
  by_cases hbig : 200 < l.length
  · subst hvs
    clear hv
    generalize l.length = q at *
    go_enter Try.func9, Try.ntmps9
    repeat' (first | ((with_reducible refine Ac ?_); first | ((first | refine Ai Aa ?_ | refine Al Aa ?_ | refine Af Aa ?_ | refine Av Aa Ab hS ?_ | refine Ba Aa Ab hS ?_ | refine Ag Aa ?_ | refine Ae Aa ?_ | refine Be Aa ?_ | refine g_cap Aa ?_ | refine Bl Aa ?_ | refine Bd Aa ?_ | refine Cj Aa ?_ | refine Ca Aa ?_ | refine Cz Aa ?_ | refine Cq Aa ?_ | refine Ak Aa ?_ | refine Aj Aa ?_ | refine Aw Aa (fun hc => ?_) (fun hc => ?_) | refine Cg Aa ?_ | refine Bz Aa ?_ | refine Ck Aa ?_ | refine Cd Aa ?_ | refine Az Aa ?_ | refine g_field1 Aa ?_ | refine g_fieldR Aa ?_ | refine Bx Aa ?_ | refine Bu Aa ?_ | refine Ax Aa ?_ | refine Dj Aa ?_ | refine Bq Aa ?_ | refine Bk Aa ?_ | refine Bw Aa ?_ | refine Bh Aa ?_ | refine Bc Aa ?_ | refine Au Aa ?_ | refine g_nilCheck Aa ?_ | refine Cp Aa ?_ | refine Ar Aa ?_) <;> refine Ad ?_) | ((first | refine Ay Aa Ab hS ?_ | refine Cu Aa Ab hS ?_ | refine Ao Aa Ab hS ?_ | refine As Aa Ab hS ?_ | refine g_make Aa Ab hS ?_); clear hS; intro b w hS; refine Ad ?_) | ((first | refine Br Aa Ab hS ?_ | refine Ap Aa Ab hS ?_ | refine Aq Aa Ab hS ?_); clear hS; intro w hS; refine Ad ?_)) | ((fail_if_success (with_reducible refine Ac ?_)); first | go_step | go_step3 | rw [Exit.noGoto_normal] | rw [Exit.noGoto_ret] | rw [Exit.noGoto_exit]))
    go_ret
    exact ⟨rfl, hS.below⟩
  have hl : l.length ≤ 200 := by omega
  have hok := rowP_ok hv
  have hrl := rowP_len l
  have hpu := fun w h => puts_any l (by omega) v w h
  obtain ⟨L, hL⟩ : ∃ L, rowP l = L := ⟨_, rfl⟩
  obtain ⟨q, hq⟩ : ∃ q, l.length = q := ⟨_, rfl⟩
  rw [hL] at hok hrl hpu
  rw [hq] at hrl hpu hl
  have hlp := putsC_len hok
  rw [hrl] at hlp
  rw [hq] at hvs
  subst hvs
  go_enter Try.func9, Try.ntmps9
  repeat' (first | ((with_reducible refine Ac ?_); first | ((first | refine Ai Aa ?_ | refine Al Aa ?_ | refine Af Aa ?_ | refine Av Aa Ab hS ?_ | refine Ba Aa Ab hS ?_ | refine Ag Aa ?_ | refine Ae Aa ?_ | refine Be Aa ?_ | refine g_cap Aa ?_ | refine Bl Aa ?_ | refine Bd Aa ?_ | refine Cj Aa ?_ | refine Ca Aa ?_ | refine Cz Aa ?_ | refine Cq Aa ?_ | refine Ak Aa ?_ | refine Aj Aa ?_ | refine Aw Aa (fun hc => ?_) (fun hc => ?_) | refine Cg Aa ?_ | refine Bz Aa ?_ | refine Ck Aa ?_ | refine Cd Aa ?_ | refine Az Aa ?_ | refine g_field1 Aa ?_ | refine g_fieldR Aa ?_ | refine Bx Aa ?_ | refine Bu Aa ?_ | refine Ax Aa ?_ | refine Dj Aa ?_ | refine Bq Aa ?_ | refine Bk Aa ?_ | refine Bw Aa ?_ | refine Bh Aa ?_ | refine Bc Aa ?_ | refine Au Aa ?_ | refine g_nilCheck Aa ?_ | refine Cp Aa ?_ | refine Ar Aa ?_) <;> refine Ad ?_) | ((first | refine Ay Aa Ab hS ?_ | refine Cu Aa Ab hS ?_ | refine Ao Aa Ab hS ?_ | refine As Aa Ab hS ?_ | refine g_make Aa Ab hS ?_); clear hS; intro b w hS; refine Ad ?_) | ((first | refine Br Aa Ab hS ?_ | refine Ap Aa Ab hS ?_ | refine Aq Aa Ab hS ?_); clear hS; intro w hS; refine Ad ?_)) | ((fail_if_success (with_reducible refine Ac ?_)); first | go_step | go_step3 | rw [Exit.noGoto_normal] | rw [Exit.noGoto_ret] | rw [Exit.noGoto_exit]))
  refine s_call Aa (by rfl) (by rfl) (by rfl) (by rfl) (by rfl) (by infer_instance) (hpu _ (hv.below hS.below)) ?_
  rintro e w1 ⟨g, c1, sp, rfl, k1, k2, k3, k4, k5, hB⟩
  refine ⟨_, rfl, ?_⟩
  refine Ad ?_
  replace hS := Ab.new hS hB k4 k5
  clear k4 k5 hB
  repeat' (first | ((with_reducible refine Ac ?_); first | ((first | refine Ai Aa ?_ | refine Al Aa ?_ | refine Af Aa ?_ | refine Av Aa Ab hS ?_ | refine Ba Aa Ab hS ?_ | refine Ag Aa ?_ | refine Ae Aa ?_ | refine Be Aa ?_ | refine g_cap Aa ?_ | refine Bl Aa ?_ | refine Bd Aa ?_ | refine Cj Aa ?_ | refine Ca Aa ?_ | refine Cz Aa ?_ | refine Cq Aa ?_ | refine Ak Aa ?_ | refine Aj Aa ?_ | refine Aw Aa (fun hc => ?_) (fun hc => ?_) | refine Cg Aa ?_ | refine Bz Aa ?_ | refine Ck Aa ?_ | refine Cd Aa ?_ | refine Az Aa ?_ | refine g_field1 Aa ?_ | refine g_fieldR Aa ?_ | refine Bx Aa ?_ | refine Bu Aa ?_ | refine Ax Aa ?_ | refine Dj Aa ?_ | refine Bq Aa ?_ | refine Bk Aa ?_ | refine Bw Aa ?_ | refine Bh Aa ?_ | refine Bc Aa ?_ | refine Au Aa ?_ | refine g_nilCheck Aa ?_ | refine Cp Aa ?_ | refine Ar Aa ?_) <;> refine Ad ?_) | ((first | refine Ay Aa Ab hS ?_ | refine Cu Aa Ab hS ?_ | refine Ao Aa Ab hS ?_ | refine As Aa Ab hS ?_ | refine g_make Aa Ab hS ?_); clear hS; intro b w hS; refine Ad ?_) | ((first | refine Br Aa Ab hS ?_ | refine Ap Aa Ab hS ?_ | refine Aq Aa Ab hS ?_); clear hS; intro w hS; refine Ad ?_)) | ((fail_if_success (with_reducible refine Ac ?_)); first | go_step | go_step3 | rw [Exit.noGoto_normal] | rw [Exit.noGoto_ret] | rw [Exit.noGoto_exit]))
  refine s_append Aa Ab hS (by rfl) (by rfl) (by rfl) (by rfl) (by infer_instance) (by exact at_ 0 rfl) (olds := []) (spare := []) (by rfl) (by rfl) (Nat.le_refl _) (by rfl) (xs := putsC L) (src_blk (hS.blk 1 rfl) (fun j v h => by rw [Nat.zero_add]; exact (List.getElem?_append_left (List.getElem?_eq_some_iff.1 h).1).trans h)) hlp putsC_one (by unfold maxLen; omega) (nm := q) (by omega) ?_
  clear hS
  intro g3 c3 sp3 w3 q1 q2 q3 hS
  rw [List.nil_append] at hS
  refine Ad ?_
  have hc1 := c1_built
  have hp1 := pt_built 2 (C := 1 :: zs 127) (by rw [List.length_cons, zs_len])
  obtain ⟨C1, hC1⟩ : ∃ C, (1 : UInt8) :: zs 127 = C := ⟨_, rfl⟩
  have lC1 : C1.length = 128 := by rw [← hC1, List.length_cons, zs_len]
  have hC10 : C1.getD 0 0 = 1 := by rw [← hC1]; rfl
  rw [hC1] at hc1 hp1
  clear hC1
  repeat' (first | ((with_reducible refine Ac ?_); first | ((first | refine Ai Aa ?_ | refine Al Aa ?_ | refine Af Aa ?_ | refine Av Aa Ab hS ?_ | refine Ba Aa Ab hS ?_ | refine Ag Aa ?_ | refine Ae Aa ?_ | refine Be Aa ?_ | refine g_cap Aa ?_ | refine Bl Aa ?_ | refine Bd Aa ?_ | refine Cj Aa ?_ | refine Ca Aa ?_ | refine Cz Aa ?_ | refine Cq Aa ?_ | refine Ak Aa ?_ | refine Aj Aa ?_ | refine Aw Aa (fun hc => ?_) (fun hc => ?_) | refine Cg Aa ?_ | refine Bz Aa ?_ | refine Ck Aa ?_ | refine Cd Aa ?_ | refine Az Aa ?_ | refine g_field1 Aa ?_ | refine g_fieldR Aa ?_ | refine Bx Aa ?_ | refine Bu Aa ?_ | refine Ax Aa ?_ | refine Dj Aa ?_ | refine Bq Aa ?_ | refine Bk Aa ?_ | refine Bw Aa ?_ | refine Bh Aa ?_ | refine Bc Aa ?_ | refine Au Aa ?_ | refine g_nilCheck Aa ?_ | refine Cp Aa ?_ | refine Ar Aa ?_) <;> refine Ad ?_) | ((first | refine Ay Aa Ab hS ?_ | refine Cu Aa Ab hS ?_ | refine Ao Aa Ab hS ?_ | refine As Aa Ab hS ?_ | refine g_make Aa Ab hS ?_); clear hS; intro b w hS; refine Ad ?_) | ((first | refine Br Aa Ab hS ?_ | refine Ap Aa Ab hS ?_ | refine Aq Aa Ab hS ?_); clear hS; intro w hS; refine Ad ?_)) | ((fail_if_success (with_reducible refine Ac ?_)); first | go_step | go_step3 | rw [Exit.noGoto_normal] | rw [Exit.noGoto_ret] | rw [Exit.noGoto_exit]))
  have lZ := zs_len 128
  generalize zs 128 = Z at lZ ⊢
  refine Aa.go (by rfl) (by rfl) (r_built (by rfl) (by rfl) hc1) ?_
  refine Ad ?_
  refine Aa.go (by rfl) (by rfl) (r_built (by rfl) (by rfl) hp1) ?_
  refine Ad ?_
  have sZ : ∀ a : Int, (Value.int .i64 a :: List.map bv Z).length = 129 := fun a => by rw [List.length_cons, List.length_map, lZ]
  refine s_newS Aa Ab hS (by rfl) (by rfl) (Cf (cells := putsC [(2, Z), (1, Z), (2, C1)]) (by rfl) (by rfl) (by infer_instance) (by rfl) (by
    refine List.forall_mem_cons.2 ⟨?_, List.forall_mem_cons.2 ⟨?_, List.forall_mem_cons.2 ⟨?_, fun _ h => absurd h List.not_mem_nil⟩⟩⟩
    · exact sZ 2
    · exact sZ 1
    · show (hdV 2 C1).size = 129
      rw [← csz_is, hdV_size, lC1]) (by rfl) (by decide) (by decide)) rfl rfl rfl ?_
  clear hS
  intro bO w4 hS
  refine Ad ?_
  have hPO : PutsAt w4 (.slice (some ⟨bO, 0, none⟩) 3 3) [(2, Z), (1, Z), (2, C1)] := PutsAt.own (sp := []) (fun x hx => by
    simp only [List.mem_cons, List.not_mem_nil, or_false] at hx
    rcases hx with rfl | rfl | rfl
    · exact ⟨lZ, by simp⟩
    · exact ⟨lZ, by simp⟩
    · exact ⟨lC1, by simp⟩) rfl (Nat.le_refl _) (by rw [List.append_nil]; exact hS.blk 0 rfl)
  refine s_call Aa (by rfl) (by rfl) (by rfl) (by rfl) (by rfl) (by infer_instance) (MP.merge_any _ (by simp) _ _ hPO) ?_
  rintro e w5 ⟨sv, R, rfl, hO, hR, hB⟩
  refine ⟨_, rfl, ?_⟩
  have hRR := isMerge_unique hR (one_merge Z C1)
  subst hRR
  rcases hO with ⟨-, h⟩ | ⟨g5, c5, sp5, rfl, m1, m2, m3, m4, m5⟩
  · cases h
  obtain ⟨h130, hs130⟩ := one_at lZ hC10 lC1 sp5
  replace hS := Ab.new (Ab.drop hS) (hB) m4 m5
  generalize (([(1, Z), (2, C1)] : List Pt).flatMap putC ++ sp5).toArray = O5 at *
  clear m3 m4 m5 hB hPO hR hc1 hp1
  simp only [List.length_cons, List.length_nil] at m1 ⊢
  refine Ad ?_
  repeat' (first | ((with_reducible refine Ac ?_); first | ((first | refine Ai Aa ?_ | refine Al Aa ?_ | refine Af Aa ?_ | refine Av Aa Ab hS ?_ (hv := by first | rfl | exact Bi | (rw [Array.getElem?_toList]; exact h130)) | refine Ba Aa Ab hS ?_ (hv := by first | exact Bo _ _ (by (try simp only [Bn, Bg, Bm, List.length_append, List.length_set, zs_len, List.length_take, List.length_drop, List.length_cons, List.length_nil]); first | done | rfl | omega) | (exact h130) | rfl) | refine Ag Aa ?_ | refine Ae Aa ?_ | refine Be Aa ?_ | refine g_cap Aa ?_ | refine Bl Aa ?_ | refine Bd Aa ?_ | refine Cj Aa ?_ | refine Ca Aa ?_ | refine Cz Aa ?_ | refine Cq Aa ?_ | refine Ak Aa ?_ | refine Aj Aa ?_ | refine Aw Aa (fun hc => ?_) (fun hc => ?_) | refine Cg Aa ?_ | refine Bz Aa ?_ | refine Ck Aa ?_ | refine Cd Aa ?_ | refine Az Aa ?_ | refine g_field1 Aa ?_ (hv' := by first | rfl | exact Bi | (rw [Array.getElem?_toList]; exact h130)) | refine g_fieldR Aa ?_ | refine Bx Aa ?_ | refine Bu Aa ?_ | refine Ax Aa ?_ | refine Dj Aa ?_ | refine Bq Aa ?_ | refine Bk Aa ?_ | refine Bw Aa ?_ | refine Bh Aa ?_ | refine Bc Aa ?_ | refine Au Aa ?_ | refine g_nilCheck Aa ?_ | refine Cp Aa ?_ | refine Ar Aa ?_) <;> refine Ad ?_) | ((first | refine Ay Aa Ab hS ?_ | refine Cu Aa Ab hS ?_ | refine Ao Aa Ab hS ?_ | refine As Aa Ab hS ?_ | refine g_make Aa Ab hS ?_); clear hS; intro b w hS; refine Ad ?_) | ((first | refine Br Aa Ab hS ?_ | refine Ap Aa Ab hS ?_ | refine Aq Aa Ab hS ?_); clear hS; intro w hS; refine Ad ?_)) | ((fail_if_success (with_reducible refine Ac ?_)); first | go_step | go_step3 | rw [Exit.noGoto_normal] | rw [Exit.noGoto_ret] | rw [Exit.noGoto_exit]))
  have hPc : PutsAt _ (.slice (some ⟨g3, 0, none⟩) q c3) L := PutsAt.own hok hrl q1 (hS.blk 1 rfl)
  have hPg : PutsAt _ (.slice (some ⟨g, 0, none⟩) q c1) L := PutsAt.own hok hrl k1 (hS.blk 2 rfl)
  refine s_call Aa (by rfl) (by rfl) (by rfl) (by rfl) (by rfl) (by infer_instance) (MP.merge_any L (by omega) _ _ hPc) ?_
  rintro e w6 ⟨sx, RX, rfl, hOX, hRX, hB⟩
  refine ⟨_, rfl, ?_⟩
  replace hPc := hPc.below hB
  replace hPg := hPg.below hB
  have hPx := hOX.puts (merge_ok hok hRX)
  replace hS := Ab.call hS hB
  clear hB hOX
  refine Ad ?_
  repeat' (first | ((with_reducible refine Ac ?_); first | ((first | refine Ai Aa ?_ | refine Al Aa ?_ | refine Af Aa ?_ | refine Av Aa Ab hS ?_ | refine Ba Aa Ab hS ?_ | refine Ag Aa ?_ | refine Ae Aa ?_ | refine Be Aa ?_ | refine g_cap Aa ?_ | refine Bl Aa ?_ | refine Bd Aa ?_ | refine Cj Aa ?_ | refine Ca Aa ?_ | refine Cz Aa ?_ | refine Cq Aa ?_ | refine Ak Aa ?_ | refine Aj Aa ?_ | refine Aw Aa (fun hc => ?_) (fun hc => ?_) | refine Cg Aa ?_ | refine Bz Aa ?_ | refine Ck Aa ?_ | refine Cd Aa ?_ | refine Az Aa ?_ | refine g_field1 Aa ?_ | refine g_fieldR Aa ?_ | refine Bx Aa ?_ | refine Bu Aa ?_ | refine Ax Aa ?_ | refine Dj Aa ?_ | refine Bq Aa ?_ | refine Bk Aa ?_ | refine Bw Aa ?_ | refine Bh Aa ?_ | refine Bc Aa ?_ | refine Au Aa ?_ | refine g_nilCheck Aa ?_ | refine Cp Aa ?_ | refine Ar Aa ?_) <;> refine Ad ?_) | ((first | refine Ay Aa Ab hS ?_ | refine Cu Aa Ab hS ?_ | refine Ao Aa Ab hS ?_ | refine As Aa Ab hS ?_ | refine g_make Aa Ab hS ?_); clear hS; intro b w hS; refine Ad ?_) | ((first | refine Br Aa Ab hS ?_ | refine Ap Aa Ab hS ?_ | refine Aq Aa Ab hS ?_); clear hS; intro w hS; refine Ad ?_)) | ((fail_if_success (with_reducible refine Ac ?_)); first | go_step | go_step3 | rw [Exit.noGoto_normal] | rw [Exit.noGoto_ret] | rw [Exit.noGoto_exit]))
  refine s_call Aa (by rfl) (by rfl) (by rfl) (by rfl) (by rfl) (by infer_instance) (refMerge_any L (by omega) _ _ hPg) ?_
  rintro e w7 ⟨sy, RY, rfl, hOY, hRY, hB⟩
  refine ⟨_, rfl, ?_⟩
  replace hPc := hPc.below hB
  replace hPg := hPg.below hB
  replace hPx := hPx.below hB
  have hPy := hOY.puts (merge_ok hok hRY)
  replace hS := Ab.call hS hB
  clear hB hOY
  have hEq := isMerge_unique hRY hRX
  subst hEq
  have hlR := merge_len hRX
  refine Ad ?_
  repeat' (first | ((with_reducible refine Ac ?_); first | ((first | refine Ai Aa ?_ | refine Al Aa ?_ | refine Af Aa ?_ | refine Av Aa Ab hS ?_ | refine Ba Aa Ab hS ?_ | refine Ag Aa ?_ | refine Ae Aa ?_ | refine Be Aa ?_ | refine g_cap Aa ?_ | refine Bl Aa ?_ | refine Bd Aa ?_ | refine Cj Aa ?_ | refine Ca Aa ?_ | refine Cz Aa ?_ | refine Cq Aa ?_ | refine Ak Aa ?_ | refine Aj Aa ?_ | refine Aw Aa (fun hc => ?_) (fun hc => ?_) | refine Cg Aa ?_ | refine Bz Aa ?_ | refine Ck Aa ?_ | refine Cd Aa ?_ | refine Az Aa ?_ | refine g_field1 Aa ?_ | refine g_fieldR Aa ?_ | refine Bx Aa ?_ | refine Bu Aa ?_ | refine Ax Aa ?_ | refine Dj Aa ?_ | refine Bq Aa ?_ | refine Bk Aa ?_ | refine Bw Aa ?_ | refine Bh Aa ?_ | refine Bc Aa ?_ | refine Au Aa ?_ | refine g_nilCheck Aa ?_ | refine Cp Aa ?_ | refine Ar Aa ?_) <;> refine Ad ?_) | ((first | refine Ay Aa Ab hS ?_ | refine Cu Aa Ab hS ?_ | refine Ao Aa Ab hS ?_ | refine As Aa Ab hS ?_ | refine g_make Aa Ab hS ?_); clear hS; intro b w hS; refine Ad ?_) | ((first | refine Br Aa Ab hS ?_ | refine Ap Aa Ab hS ?_ | refine Aq Aa Ab hS ?_); clear hS; intro w hS; refine Ad ?_)) | ((fail_if_success (with_reducible refine Ac ?_)); first | go_step | go_step3 | rw [Exit.noGoto_normal] | rw [Exit.noGoto_ret] | rw [Exit.noGoto_exit]))
  refine s_call Aa (by rfl) (by rfl) (by rfl) (by rfl) (by rfl) (by infer_instance) (same_pts RY RY (by omega) _ _ _ hPx hPy) ?_
  rintro e w8 ⟨rfl, hB⟩
  refine ⟨_, rfl, ?_⟩
  rw [decide_eq_true (rfl : RY = RY)]
  replace hPc := hPc.below hB
  replace hPg := hPg.below hB
  replace hS := Ab.call hS hB
  clear hB hPx hPy
  refine Ad ?_
  repeat' (first | ((with_reducible refine Ac ?_); first | ((first | refine Ai Aa ?_ | refine Al Aa ?_ | refine Af Aa ?_ | refine Av Aa Ab hS ?_ | refine Ba Aa Ab hS ?_ | refine Ag Aa ?_ | refine Ae Aa ?_ | refine Be Aa ?_ | refine g_cap Aa ?_ | refine Bl Aa ?_ | refine Bd Aa ?_ | refine Cj Aa ?_ | refine Ca Aa ?_ | refine Cz Aa ?_ | refine Cq Aa ?_ | refine Ak Aa ?_ | refine Aj Aa ?_ | refine Aw Aa (fun hc => ?_) (fun hc => ?_) | refine Cg Aa ?_ | refine Bz Aa ?_ | refine Ck Aa ?_ | refine Cd Aa ?_ | refine Az Aa ?_ | refine g_field1 Aa ?_ | refine g_fieldR Aa ?_ | refine Bx Aa ?_ | refine Bu Aa ?_ | refine Ax Aa ?_ | refine Dj Aa ?_ | refine Bq Aa ?_ | refine Bk Aa ?_ | refine Bw Aa ?_ | refine Bh Aa ?_ | refine Bc Aa ?_ | refine Au Aa ?_ | refine g_nilCheck Aa ?_ | refine Cp Aa ?_ | refine Ar Aa ?_) <;> refine Ad ?_) | ((first | refine Ay Aa Ab hS ?_ | refine Cu Aa Ab hS ?_ | refine Ao Aa Ab hS ?_ | refine As Aa Ab hS ?_ | refine g_make Aa Ab hS ?_); clear hS; intro b w hS; refine Ad ?_) | ((first | refine Br Aa Ab hS ?_ | refine Ap Aa Ab hS ?_ | refine Aq Aa Ab hS ?_); clear hS; intro w hS; refine Ad ?_)) | ((fail_if_success (with_reducible refine Ac ?_)); first | go_step | go_step3 | rw [Exit.noGoto_normal] | rw [Exit.noGoto_ret] | rw [Exit.noGoto_exit]))
  refine s_call Aa (by rfl) (by rfl) (by rfl) (by rfl) (by rfl) (by infer_instance) (same_pts L L (by omega) _ _ _ hPc hPg) ?_
  rintro e w9 ⟨rfl, hB⟩
  refine ⟨_, rfl, ?_⟩
  rw [decide_eq_true (rfl : L = L)]
  replace hS := Ab.call hS hB
  clear hB hPc hPg
  refine Ad ?_
  repeat' (first | ((with_reducible refine Ac ?_); first | ((first | refine Ai Aa ?_ | refine Al Aa ?_ | refine Af Aa ?_ | refine Av Aa Ab hS ?_ | refine Ba Aa Ab hS ?_ | refine Ag Aa ?_ | refine Ae Aa ?_ | refine Be Aa ?_ | refine g_cap Aa ?_ | refine Bl Aa ?_ | refine Bd Aa ?_ | refine Cj Aa ?_ | refine Ca Aa ?_ | refine Cz Aa ?_ | refine Cq Aa ?_ | refine Ak Aa ?_ | refine Aj Aa ?_ | refine Aw Aa (fun hc => ?_) (fun hc => ?_) | refine Cg Aa ?_ | refine Bz Aa ?_ | refine Ck Aa ?_ | refine Cd Aa ?_ | refine Az Aa ?_ | refine g_field1 Aa ?_ | refine g_fieldR Aa ?_ | refine Bx Aa ?_ | refine Bu Aa ?_ | refine Ax Aa ?_ | refine Dj Aa ?_ | refine Bq Aa ?_ | refine Bk Aa ?_ | refine Bw Aa ?_ | refine Bh Aa ?_ | refine Bc Aa ?_ | refine Au Aa ?_ | refine g_nilCheck Aa ?_ | refine Cp Aa ?_ | refine Ar Aa ?_) <;> refine Ad ?_) | ((first | refine Ay Aa Ab hS ?_ | refine Cu Aa Ab hS ?_ | refine Ao Aa Ab hS ?_ | refine As Aa Ab hS ?_ | refine g_make Aa Ab hS ?_); clear hS; intro b w hS; refine Ad ?_) | ((first | refine Br Aa Ab hS ?_ | refine Ap Aa Ab hS ?_ | refine Aq Aa Ab hS ?_); clear hS; intro w hS; refine Ad ?_)) | ((fail_if_success (with_reducible refine Ac ?_)); first | go_step | go_step3 | rw [Exit.noGoto_normal] | rw [Exit.noGoto_ret] | rw [Exit.noGoto_exit]))
  go_ret
  exact ⟨rfl, hS.below⟩
end Go.Proofs.Ytcjncidahjneaaa

namespace Go.Proofs.Ytcjncidahjneaaa
open Go.ChangeShapes Go.WideShapes Go.ChangeAt Go.RowKit

theorem Try.own : ownKnob Try.prog.godebug = none := by kernel_rfl
theorem Try.laidOut : laidOutB Try.prog = true := by kernel_rfl

set_option maxRecDepth 100000 in
theorem redoMerge_lifted (os : Os) (started : os.Started) (H : Type) (enc : TypeId × Value → H) :
    ReturnsInHanded {} Try.checked os 9 .any (Rows.redoMergeSpec.pre6 enc Try.prog Try.f9 Rows.redoMergeRow.domain false) (Rows.redoMergeSpec.post enc Try.prog Try.f9 false true false false) := by
  refine law_lift (C := Try.checked) Try.own started (by kernel_rfl) Try.func9
    (ChangeSpec.witness6 (enc := enc) (C := Try.checked) false ⟨#[], #[.slice none 0 0], []⟩ 8 (by kernel_rfl) (by kernel_rfl) (by kernel_rfl) (by kernel_rfl))
    rfl (by kernel_rfl) Try.underlying4 (fun ds h => by match ds, h with | [a], _ => exact ⟨rfl, rfl, rfl⟩) Try.laidOut (by kernel_rfl) ?_
  intro W base args ds p hval0 hA0 hlt hsz0
  have hval : ∀ (j : Nat) t v, Try.f9.params[j]? = some t → args[j]? = some v → Value.okWide Try.prog W .any base t v := hval0
  have hA : DataW.TrodAll enc Try.prog W 0 (fun _ => true) true Try.f9.params.toList args.toList ds p := hA0
  have hsz : (DataW.weightsEach Try.prog Try.f9.params.toList ds).all (· ≤ reachBytes) = true := hsz0
  rw [Try.params9] at hA hval hsz
  obtain ⟨v0, d0, rfl, rfl, h0⟩ := trodAll_one hA

  obtain ⟨x0, lx0, mx0⟩ := open_rws (okWide_slice Try.underlying42 (hval 0 _ v0 rfl rfl)) h0
  exact redoMerge_any x0 v0 W lx0

theorem redoMerge_holds : Rows.RedoMergeSaid :=
  OpenClaim.holds_of_wide 9 Try.f9 rfl rfl rfl rfl rfl rfl rfl ⟨rfl, rfl, rfl, rfl, rfl⟩ rfl rfl rfl rfl rfl (by kernel_rfl) Try.func9 (by kernel_rfl)
    (of_decide_eq_true (by kernel_rfl)) (by unfold Func.isWrapper; rw [if_neg (by decide +kernel)]; exact ⟨rfl, rfl⟩)
    (fun os started H enc _ => redoMerge_lifted os started H enc)

end Go.Proofs.Ytcjncidahjneaaa
