/-
  The law RedoReturns: for every entry it answers true. No condition.
-/
import Derived.Test.YtcjncidahjneaaaRows
import Derived.Test.YtcjncidahjneaaaJP0

namespace Go.Proofs.Ytcjncidahjneaaa
open Go.ChangeShapes Go.WideShapes Go.ChangeAt Go.RowKit
attribute [local irreducible] wpList wpListIn Oper.quietAt wpM
attribute [local irreducible] encL DecOk putsD cntR cellN rowP tagL txtL
theorem r_convX {P : Program} {o : Oper} {a : Act} {w : World} {s t : TypeId} {x : Operand} {n : Int} {M : Nat} (hop : o.op = .convert s t x) (hx : evO a x = some (.int .i64 n)) (hs : IntT P s .i64) (ht : IntT P t .u64) (hM : u64W n = M) : (execOp a.eval o).run P w = .ok (.value (.int .u64 (M : Int))) w := r_convV hop hx hs ht hM
theorem u64W_nat {n : Int} {m : Nat} (h : n = (m : Int)) (hm : m < 65536) : u64W n = m := by subst h; unfold u64W; omega
set_option maxRecDepth 100000 in
set_option maxHeartbeats 8000000 in
theorem rdBack_any (key : List UInt8) (n more : Int) (hnr : -9223372036854775808 ≤ n ∧ n ≤ 9223372036854775807) (l : List Rw) (kv v : Value) (w0 : World) (hkv : BytesAt w0 kv key) (hv : RwAt w0 v l) :
    Calls Try.prog 27 #[kv, .int .i64 n, v, .int .i64 more] w0 fun e w' => e = .returned (.bool true) ∧ Below w0.heap.size w0 w' := by
  have hS := St.start w0
  by_cases hbig : 1000 < key.length ∨ 70 < l.length
  · have hlg := fun w h1 h2 => large_yes l key hbig kv v w h1 h2
    go_enter Try.func27, Try.ntmps27
    repeat' (first | ((with_reducible refine Ac ?_); first | ((first | refine Ai Aa ?_ | refine Al Aa ?_ | refine Af Aa ?_ | refine Av Aa Ab hS ?_ | refine Ba Aa Ab hS ?_ | refine Ag Aa ?_ | refine Ae Aa ?_ | refine Be Aa ?_ | refine g_cap Aa ?_ | refine Bl Aa ?_ | refine Bd Aa ?_ | refine Cj Aa ?_ | refine Ca Aa ?_ | refine Cz Aa ?_ | refine Cq Aa ?_ | refine Ak Aa ?_ | refine Aj Aa ?_ | refine Aw Aa (fun hc => ?_) (fun hc => ?_) | refine Cg Aa ?_ | refine Bz Aa ?_ | refine Ck Aa ?_ | refine Cd Aa ?_ | refine Az Aa ?_ | refine g_field1 Aa ?_ | refine g_fieldR Aa ?_ | refine Bx Aa ?_ | refine Bu Aa ?_ | refine Ax Aa ?_ | refine Dj Aa ?_ | refine Bq Aa ?_ | refine Bk Aa ?_ | refine Bw Aa ?_ | refine Bh Aa ?_ | refine Bc Aa ?_ | refine Au Aa ?_ | refine g_nilCheck Aa ?_ | refine Cp Aa ?_ | refine Ar Aa ?_) <;> refine Ad ?_) | ((first | refine Ay Aa Ab hS ?_ | refine Cu Aa Ab hS ?_ | refine Ao Aa Ab hS ?_ | refine As Aa Ab hS ?_ | refine g_make Aa Ab hS ?_); clear hS; intro b w hS; refine Ad ?_) | ((first | refine Br Aa Ab hS ?_ | refine Ap Aa Ab hS ?_ | refine Aq Aa Ab hS ?_); clear hS; intro w hS; refine Ad ?_) | (refine Ce Aa Ab hS (hlg _ (hkv.below hS.below) (hv.below hS.below)) ?_; clear hS; intro w hS; refine Ad ?_)) | ((fail_if_success (with_reducible refine Ac ?_)); first | go_step | go_step3 | rw [Exit.noGoto_normal] | rw [Exit.noGoto_ret] | rw [Exit.noGoto_exit]))
    go_ret
    exact ⟨rfl, hS.below⟩
  have hk : key.length ≤ 1000 := by omega
  have hl : l.length ≤ 70 := by omega
  have hk6 : key.length ≤ 1000000 := by omega
  have hlg := fun w h1 h2 => large_no l hl key hk kv v w h1 h2
  have hok := rowP_ok hv
  have hrl := rowP_len l
  have hpu := fun w h => puts_at l (by omega) v w h
  obtain ⟨L, hL⟩ : ∃ L, rowP l = L := ⟨_, rfl⟩
  obtain ⟨q, hq⟩ : ∃ q, l.length = q := ⟨_, rfl⟩
  rw [hL] at hok hrl hpu
  rw [hq] at hrl hpu
  obtain ⟨M, hM⟩ : ∃ M, u64W more = M := ⟨_, rfl⟩
  have hMM := hid hM
  go_enter Try.func27, Try.ntmps27
  repeat' (first | ((with_reducible refine Ac ?_); first | ((first | refine Ai Aa ?_ | refine Al Aa ?_ | refine Af Aa ?_ | refine Av Aa Ab hS ?_ | refine Ba Aa Ab hS ?_ | refine Ag Aa ?_ | refine Ae Aa ?_ | refine Be Aa ?_ | refine g_cap Aa ?_ | refine Bl Aa ?_ | refine Bd Aa ?_ | refine Cj Aa ?_ | refine Ca Aa ?_ | refine Cz Aa ?_ | refine Cq Aa ?_ | refine Ak Aa ?_ | refine Aj Aa ?_ | refine Aw Aa (fun hc => ?_) (fun hc => ?_) | refine Cg Aa ?_ | refine Bz Aa ?_ | refine Ck Aa ?_ | refine Cd Aa ?_ | refine Az Aa ?_ | refine g_field1 Aa ?_ | refine g_fieldR Aa ?_ | refine Bx Aa ?_ | refine Bu Aa ?_ | refine Ax Aa ?_ | refine Dj Aa ?_ | refine Bq Aa ?_ | refine Bk Aa ?_ | refine Bw Aa ?_ | refine Bh Aa ?_ | refine Bc Aa ?_ | refine Au Aa ?_ | refine g_nilCheck Aa ?_ | refine Cp Aa ?_ | refine Ar Aa ?_) <;> refine Ad ?_) | ((first | refine Ay Aa Ab hS ?_ | refine Cu Aa Ab hS ?_ | refine Ao Aa Ab hS ?_ | refine As Aa Ab hS ?_ | refine g_make Aa Ab hS ?_); clear hS; intro b w hS; refine Ad ?_) | ((first | refine Br Aa Ab hS ?_ | refine Ap Aa Ab hS ?_ | refine Aq Aa Ab hS ?_); clear hS; intro w hS; refine Ad ?_) | (refine Ce Aa Ab hS (hlg _ (hkv.below hS.below) (hv.below hS.below)) ?_; clear hS; intro w hS; refine Ad ?_)) | ((fail_if_success (with_reducible refine Ac ?_)); first | go_step | go_step3 | rw [Exit.noGoto_normal] | rw [Exit.noGoto_ret] | rw [Exit.noGoto_exit]))
  refine s_call Aa (by rfl) (by rfl) (by rfl) (by rfl) (by rfl) (by infer_instance) (hpu _ (hv.below hS.below)) ?_
  rintro e w1 ⟨g1, c2, rfl, hP1, hB⟩
  refine ⟨_, rfl, ?_⟩
  refine Ad ?_
  replace hS := Ab.call hS hB
  clear hB
  by_cases hgood : 0 ≤ n ∧ soundP L
  rotate_left
  · have hbad : n < 0 ∨ ¬ soundP L := by
      by_cases h0 : 0 ≤ n
      · exact .inr fun h => hgood ⟨h0, h⟩
      · exact .inl (by omega)
    have hea := fun w h1 => encode_bad n L (by omega) hbad kv (.slice (some ⟨g1, 0, none⟩) q c2) w h1
    have heo : ∀ w, BytesAt w kv key → Calls Try.prog 16 #[kv, .int .i64 1, .slice none 0 0] w fun e w' => ∃ g c, e = .returned (.tuple #[.slice (some ⟨g, 0, none⟩) 2 c, .nilIface]) ∧ Below w.heap.size w w' := fun w h1 => (encode_good key (by omega) 1 (by omega) [] sound_nil kv (.slice none 0 0) w h1 (PutsAt.nil w)).mono (by
      rintro e w' ⟨g, c, sp, rfl, _, _, _, _, _, hB⟩
      exact ⟨g, c, rfl, hB⟩)
    clear hgood hbad
    repeat' (first | ((with_reducible refine Ac ?_); first | ((first | refine Ai Aa ?_ | refine Al Aa ?_ | refine Af Aa ?_ | refine Av Aa Ab hS ?_ | refine Ba Aa Ab hS ?_ | refine Ag Aa ?_ | refine Ae Aa ?_ | refine Be Aa ?_ | refine g_cap Aa ?_ | refine Bl Aa ?_ | refine Bd Aa ?_ | refine Cj Aa ?_ | refine Ca Aa ?_ | refine Cz Aa ?_ | refine Cq Aa ?_ | refine Ak Aa ?_ | refine Aj Aa ?_ | refine Aw Aa (fun hc => ?_) (fun hc => ?_) | refine Cg Aa ?_ | refine Bz Aa ?_ | refine Ck Aa ?_ | refine Cd Aa ?_ | refine Az Aa ?_ | refine g_field1 Aa ?_ | refine g_fieldR Aa ?_ | refine Bx Aa ?_ | refine Bu Aa ?_ | refine Ax Aa ?_ | refine Dj Aa ?_ | refine Bq Aa ?_ | refine Bk Aa ?_ | refine Bw Aa ?_ | refine Bh Aa ?_ | refine Bc Aa ?_ | refine Au Aa ?_ | refine g_nilCheck Aa ?_ | refine Cp Aa ?_ | refine Ar Aa ?_) <;> refine Ad ?_) | ((first | refine Ay Aa Ab hS ?_ | refine Cu Aa Ab hS ?_ | refine Ao Aa Ab hS ?_ | refine As Aa Ab hS ?_ | refine g_make Aa Ab hS ?_); clear hS; intro b w hS; refine Ad ?_) | ((first | refine Br Aa Ab hS ?_ | refine Ap Aa Ab hS ?_ | refine Aq Aa Ab hS ?_); clear hS; intro w hS; refine Ad ?_) | (refine Ce Aa Ab hS (hea _ hP1) ?_; clear hS; intro w hS; refine Ad ?_)) | ((fail_if_success (with_reducible refine Ac ?_)); first | go_step | go_step3 | rw [Exit.noGoto_normal] | rw [Exit.noGoto_ret] | rw [Exit.noGoto_exit]))
    refine s_call Aa (by rfl) (by rfl) (by rfl) (by rfl) (by rfl) (by infer_instance) (heo _ (hkv.below hS.below)) ?_
    rintro e w1 ⟨gx, cx, rfl, hB⟩
    refine ⟨_, rfl, ?_⟩
    refine Ad ?_
    replace hS := Ab.call hS hB
    repeat' (first | ((with_reducible refine Ac ?_); first | ((first | refine Ai Aa ?_ | refine Al Aa ?_ | refine Af Aa ?_ | refine Av Aa Ab hS ?_ | refine Ba Aa Ab hS ?_ | refine Ag Aa ?_ | refine Ae Aa ?_ | refine Be Aa ?_ | refine g_cap Aa ?_ | refine Bl Aa ?_ | refine Bd Aa ?_ | refine Cj Aa ?_ | refine Ca Aa ?_ | refine Cz Aa ?_ | refine Cq Aa ?_ | refine Ak Aa ?_ | refine Aj Aa ?_ | refine Aw Aa (fun hc => ?_) (fun hc => ?_) | refine Cg Aa ?_ | refine Bz Aa ?_ | refine Ck Aa ?_ | refine Cd Aa ?_ | refine Az Aa ?_ | refine g_field1 Aa ?_ | refine g_fieldR Aa ?_ | refine Bx Aa ?_ | refine Bu Aa ?_ | refine Ax Aa ?_ | refine Dj Aa ?_ | refine Bq Aa ?_ | refine Bk Aa ?_ | refine Bw Aa ?_ | refine Bh Aa ?_ | refine Bc Aa ?_ | refine Au Aa ?_ | refine g_nilCheck Aa ?_ | refine Cp Aa ?_ | refine Ar Aa ?_) <;> refine Ad ?_) | ((first | refine Ay Aa Ab hS ?_ | refine Cu Aa Ab hS ?_ | refine Ao Aa Ab hS ?_ | refine As Aa Ab hS ?_ | refine g_make Aa Ab hS ?_); clear hS; intro b w hS; refine Ad ?_) | ((first | refine Br Aa Ab hS ?_ | refine Ap Aa Ab hS ?_ | refine Aq Aa Ab hS ?_); clear hS; intro w hS; refine Ad ?_)) | ((fail_if_success (with_reducible refine Ac ?_)); first | go_step | go_step3 | rw [Exit.noGoto_normal] | rw [Exit.noGoto_ret] | rw [Exit.noGoto_exit]))
    go_ret
    exact ⟨rfl, hS.below⟩
  have hea := fun w h1 h2 => encode_good key (by omega) n hgood.1 L hgood.2 kv (.slice (some ⟨g1, 0, none⟩) q c2) w h1 h2
  have lE := encL_len key n hok hgood.2.2.2
  have hdo := fun j : Nat => dec_other key key (n := n) (l := L) (zs (128 * j)) (m := q + 2 + j) hok hgood.2 ⟨hgood.1, hnr.2⟩ (by omega)
  have hfl := fun at' y h1 h2 h3 => flip_law (key := key) (n := n) (l := L) (at' := at') (y := y) hok hgood.2 h1 h2 h3
  have h56 := hgood.2.2.2
  rw [hrl] at hea lE h56
  simp only [hrl] at hfl
  have hbo : txtL (encL key n L) = firstC n L ++ bodyL L := by
    unfold txtL
    rw [encL_0 key n hgood.2.2.2]
    congr 1
    unfold encL
    rw [← List.append_assoc, List.drop_left' (by rw [List.length_append, firstC_len n hgood.2.2.2, tagC_len])]
  obtain ⟨E, hE⟩ : ∃ E, encL key n L = E := ⟨_, rfl⟩
  rw [hE] at hea lE hbo
  simp only [hE] at hdo hfl
  rw [← hbo] at hfl
  repeat' (first | ((with_reducible refine Ac ?_); first | ((first | refine Ai Aa ?_ | refine Al Aa ?_ | refine Af Aa ?_ | refine Av Aa Ab hS ?_ | refine Ba Aa Ab hS ?_ | refine Ag Aa ?_ | refine Ae Aa ?_ | refine Be Aa ?_ | refine g_cap Aa ?_ | refine Bl Aa ?_ | refine Bd Aa ?_ | refine Cj Aa ?_ | refine Ca Aa ?_ | refine Cz Aa ?_ | refine Cq Aa ?_ | refine Ak Aa ?_ | refine Aj Aa ?_ | refine Aw Aa (fun hc => ?_) (fun hc => ?_) | refine Cg Aa ?_ | refine Bz Aa ?_ | refine Ck Aa ?_ | refine Cd Aa ?_ | refine Az Aa ?_ | refine g_field1 Aa ?_ | refine g_fieldR Aa ?_ | refine Bx Aa ?_ | refine Bu Aa ?_ | refine Ax Aa ?_ | refine Dj Aa ?_ | refine Bq Aa ?_ | refine Bk Aa ?_ | refine Bw Aa ?_ | refine Bh Aa ?_ | refine Bc Aa ?_ | refine Au Aa ?_ | refine g_nilCheck Aa ?_ | refine Cp Aa ?_ | refine Ar Aa ?_) <;> refine Ad ?_) | ((first | refine Ay Aa Ab hS ?_ | refine Cu Aa Ab hS ?_ | refine Ao Aa Ab hS ?_ | refine As Aa Ab hS ?_ | refine g_make Aa Ab hS ?_); clear hS; intro b w hS; refine Ad ?_) | ((first | refine Br Aa Ab hS ?_ | refine Ap Aa Ab hS ?_ | refine Aq Aa Ab hS ?_); clear hS; intro w hS; refine Ad ?_)) | ((fail_if_success (with_reducible refine Ac ?_)); first | go_step | go_step3 | rw [Exit.noGoto_normal] | rw [Exit.noGoto_ret] | rw [Exit.noGoto_exit]))
  refine s_call Aa (by rfl) (by rfl) (by rfl) (by rfl) (by rfl) (by infer_instance) (hea _ (hkv.below hS.below) hP1) ?_
  rintro e w1 ⟨gx, cx, spx, rfl, k4, k5, k6, k7, k8, hB⟩
  refine ⟨_, rfl, ?_⟩
  refine Ad ?_
  replace hS := Ab.new hS hB k7 k8
  clear k7 k8 hB hP1 hea
  repeat' (first | ((with_reducible refine Ac ?_); first | ((first | refine Ai Aa ?_ | refine Al Aa ?_ | refine Af Aa ?_ | refine Av Aa Ab hS ?_ | refine Ba Aa Ab hS ?_ | refine Ag Aa ?_ | refine Ae Aa ?_ | refine Be Aa ?_ | refine g_cap Aa ?_ | refine Bl Aa ?_ | refine Bd Aa ?_ | refine Cj Aa ?_ | refine Ca Aa ?_ | refine Cz Aa ?_ | refine Cq Aa ?_ | refine Ak Aa ?_ | refine Aj Aa ?_ | refine Aw Aa (fun hc => ?_) (fun hc => ?_) | refine Cg Aa ?_ | refine Bz Aa ?_ | refine Ck Aa ?_ | refine Cd Aa ?_ | refine Az Aa ?_ | refine g_field1 Aa ?_ | refine g_fieldR Aa ?_ | refine Bx Aa ?_ | refine Bu Aa ?_ | refine Ax Aa ?_ | refine Dj Aa ?_ | refine Bq Aa ?_ | refine Bk Aa ?_ | refine Bw Aa ?_ | refine Bh Aa ?_ | refine Bc Aa ?_ | refine Au Aa ?_ | refine g_nilCheck Aa ?_ | refine Cp Aa ?_ | refine Ar Aa ?_) <;> refine Ad ?_) | ((first | refine Ay Aa Ab hS ?_ | refine Cu Aa Ab hS ?_ | refine Ao Aa Ab hS ?_ | refine As Aa Ab hS ?_ | refine g_make Aa Ab hS ?_); clear hS; intro b w hS; refine Ad ?_) | ((first | refine Br Aa Ab hS ?_ | refine Ap Aa Ab hS ?_ | refine Aq Aa Ab hS ?_); clear hS; intro w hS; refine Ad ?_)) | ((fail_if_success (with_reducible refine Ac ?_)); first | go_step | go_step3 | rw [Exit.noGoto_normal] | rw [Exit.noGoto_ret] | rw [Exit.noGoto_exit]))
  refine s_append Aa Ab hS (by rfl) (by rfl) (by rfl) (by rfl) (by infer_instance) (by exact at_ 0 rfl) (olds := []) (spare := []) (by rfl) (by rfl) (Nat.le_refl _) (by rfl) (xs := E.map bv) (src_blk (hS.blk 1 rfl) (fun j v h => by rw [Nat.zero_add]; exact (List.getElem?_append_left (List.getElem?_eq_some_iff.1 h).1).trans h)) (by rw [List.length_map, lE, Nat.mul_comm]) (bv_one E) (by unfold maxLen; omega) (nm := q + 2) (by omega) ?_
  clear hS
  intro ga ca spa w3 j1 j2 j3 hS
  rw [List.nil_append] at hS
  refine Ad ?_
  have hr5 : M % 5 < 5 := Nat.mod_lt _ (by omega)
  have hm5 : ((M : Nat) : Int) % 5 = ((M % 5 : Nat) : Int) := (Int.natCast_emod M 5).symm
  obtain ⟨j5, hj5⟩ : ∃ j, M % 5 = j := ⟨_, rfl⟩
  rw [hj5] at hr5 hm5
  have hw5 : wrap64 ((j5 : Nat) : Int) = (j5 : Int) := wrap_small2 (by omega)
  repeat' (first | ((with_reducible refine Ac ?_); first | (refine Stp.go Aa (by rfl) (by rfl) (r_convX (by rfl) (by rfl) (by infer_instance) (by infer_instance) hM) ?_; refine Ad ?_) | (refine Stp.go Aa (by rfl) (by rfl) (r_rem (by rfl) (by rfl) (by rfl) ⟨Int.natCast_nonneg M, by decide⟩ hm5) ?_; refine Ad ?_) | (refine Stp.go Aa (by rfl) (by rfl) (r_convR (by rfl) (by rfl) (by infer_instance) (by infer_instance) hw5) ?_; refine Ad ?_) | ((first | refine Ai Aa ?_ | refine Al Aa ?_ | refine Af Aa ?_ | refine Av Aa Ab hS ?_ | refine Ba Aa Ab hS ?_ | refine Ag Aa ?_ | refine Ae Aa ?_ | refine Be Aa ?_ | refine g_cap Aa ?_ | refine Bl Aa ?_ | refine Bd Aa ?_ | refine Cj Aa ?_ | refine Ca Aa ?_ | refine Cz Aa ?_ | refine Cq Aa ?_ | refine Ak Aa ?_ | refine Aj Aa ?_ | refine Aw Aa (fun hc => ?_) (fun hc => ?_) | refine Cg Aa ?_ | refine Bz Aa ?_ | refine Ck Aa ?_ | refine Cd Aa ?_ | refine Az Aa ?_ | refine g_field1 Aa ?_ | refine g_fieldR Aa ?_ | refine Bx Aa ?_ | refine Bu Aa ?_ | refine Ax Aa ?_ | refine Dj Aa ?_ | refine Bq Aa ?_ | refine Bk Aa ?_ | refine Bw Aa ?_ | refine Bh Aa ?_ | refine Bc Aa ?_ | refine Au Aa ?_ | refine g_nilCheck Aa ?_ | refine Cp Aa ?_ | refine Ar Aa ?_) <;> refine Ad ?_) | ((first | refine Ay Aa Ab hS ?_ | refine Cu Aa Ab hS ?_ | refine Ao Aa Ab hS ?_ | refine As Aa Ab hS ?_ | refine g_make Aa Ab hS ?_); clear hS; intro b w hS; refine Ad ?_) | ((first | refine Br Aa Ab hS ?_ | refine Ap Aa Ab hS ?_ | refine Aq Aa Ab hS ?_); clear hS; intro w hS; refine Ad ?_)) | ((fail_if_success (with_reducible refine Ac ?_)); first | go_step | go_step3 | rw [Exit.noGoto_normal] | rw [Exit.noGoto_ret] | rw [Exit.noGoto_exit]))
  simp only [List.eraseIdx_cons_zero] at hS
  clear hm5 hj5 hw5 hM
  have hq58 : q + 2 + j5 ≤ 1000000 := by omega
  have hq59 : q + 2 + j5 ≤ 100000 := by omega
  refine s_appendZC Aa Ab hS (by rfl) (by rfl) (by rfl) (by rfl) (by infer_instance) (by infer_instance) (by infer_instance) (by exact at_ 0 rfl) (l := E) (spare := spa) (by rfl) lE j1 j3 ⟨hq58, j2⟩ (nk := q + 2 + j5) rfl ?_
  clear hS
  intro gb cb spb w4 i1 i2 i3 hS
  simp only [List.eraseIdx_cons_zero] at hS
  refine Ad ?_
  repeat' (first | ((with_reducible refine Ac ?_); first | ((first | refine Ai Aa ?_ | refine Al Aa ?_ | refine Af Aa ?_ | refine Av Aa Ab hS ?_ | refine Ba Aa Ab hS ?_ | refine Ag Aa ?_ | refine Ae Aa ?_ | refine Be Aa ?_ | refine g_cap Aa ?_ | refine Bl Aa ?_ | refine Bd Aa ?_ | refine Cj Aa ?_ | refine Ca Aa ?_ | refine Cz Aa ?_ | refine Cq Aa ?_ | refine Ak Aa ?_ | refine Aj Aa ?_ | refine Aw Aa (fun hc => ?_) (fun hc => ?_) | refine Cg Aa ?_ | refine Bz Aa ?_ | refine Ck Aa ?_ | refine Cd Aa ?_ | refine Az Aa ?_ | refine g_field1 Aa ?_ | refine g_fieldR Aa ?_ | refine Bx Aa ?_ | refine Bu Aa ?_ | refine Ax Aa ?_ | refine Dj Aa ?_ | refine Bq Aa ?_ | refine Bk Aa ?_ | refine Bw Aa ?_ | refine Bh Aa ?_ | refine Bc Aa ?_ | refine Au Aa ?_ | refine g_nilCheck Aa ?_ | refine Cp Aa ?_ | refine Ar Aa ?_) <;> refine Ad ?_) | ((first | refine Ay Aa Ab hS ?_ | refine Cu Aa Ab hS ?_ | refine Ao Aa Ab hS ?_ | refine As Aa Ab hS ?_ | refine g_make Aa Ab hS ?_); clear hS; intro b w hS; refine Ad ?_) | ((first | refine Br Aa Ab hS ?_ | refine Ap Aa Ab hS ?_ | refine Aq Aa Ab hS ?_); clear hS; intro w hS; refine Ad ?_)) | ((fail_if_success (with_reducible refine Ac ?_)); first | go_step | go_step3 | rw [Exit.noGoto_normal] | rw [Exit.noGoto_ret] | rw [Exit.noGoto_exit]))
  obtain ⟨hd1, hd2, hd3⟩ := hdo j5
  have lX5 : (E ++ zs (128 * j5)).length = 128 * (q + 2 + j5) := by rw [List.length_append, zs_len, lE]; omega
  have hCA : CellsAt _ (.slice (some ⟨gb, 0, none⟩) (q + 2 + j5) cb) (E ++ zs (128 * j5)) (q + 2 + j5) := CellsAt.own lX5 i1 (hS.blk 0 rfl)
  refine s_call Aa (by rfl) (by rfl) (by rfl) (by rfl) (by rfl) (by infer_instance) (decode_any key hk6 _ _ hq59 _ _ _ (hkv.below hS.below) hCA) ?_
  rintro e w1 ⟨ok, cnt, pv, l3, rfl, hR, hk3, ht3, hf3, hB⟩
  refine ⟨_, rfl, ?_⟩
  refine Ad ?_
  obtain rfl : ok = true := hk3.2 (hd1.2 trivial)
  obtain ⟨rfl, rfl⟩ := ht3 rfl
  rw [hd3] at hR
  rw [hd2]
  have hPv := hR.puts hok
  rcases hR.slice with ⟨p6, c6, hp6⟩
  subst hp6
  rw [hrl] at hPv ⊢
  replace hS := Ab.call hS hB
  clear hR hk3 ht3 hf3 hCA hd1 hd2 hd3 hdo lX5
  repeat' (first | ((with_reducible refine Ac ?_); first | ((first | refine Ai Aa ?_ | refine Al Aa ?_ | refine Af Aa ?_ | refine Av Aa Ab hS ?_ | refine Ba Aa Ab hS ?_ | refine Ag Aa ?_ | refine Ae Aa ?_ | refine Be Aa ?_ | refine g_cap Aa ?_ | refine Bl Aa ?_ | refine Bd Aa ?_ | refine Cj Aa ?_ | refine Ca Aa ?_ | refine Cz Aa ?_ | refine Cq Aa ?_ | refine Ak Aa ?_ | refine Aj Aa ?_ | refine Aw Aa (fun hc => ?_) (fun hc => ?_) | refine Cg Aa ?_ | refine Bz Aa ?_ | refine Ck Aa ?_ | refine Cd Aa ?_ | refine Az Aa ?_ | refine g_field1 Aa ?_ | refine g_fieldR Aa ?_ | refine Bx Aa ?_ | refine Bu Aa ?_ | refine Ax Aa ?_ | refine Dj Aa ?_ | refine Bq Aa ?_ | refine Bk Aa ?_ | refine Bw Aa ?_ | refine Bh Aa ?_ | refine Bc Aa ?_ | refine Au Aa ?_ | refine g_nilCheck Aa ?_ | refine Cp Aa ?_ | refine Ar Aa ?_) <;> refine Ad ?_) | ((first | refine Ay Aa Ab hS ?_ | refine Cu Aa Ab hS ?_ | refine Ao Aa Ab hS ?_ | refine As Aa Ab hS ?_ | refine g_make Aa Ab hS ?_); clear hS; intro b w hS; refine Ad ?_) | ((first | refine Br Aa Ab hS ?_ | refine Ap Aa Ab hS ?_ | refine Aq Aa Ab hS ?_); clear hS; intro w hS; refine Ad ?_)) | ((fail_if_success (with_reducible refine Ac ?_)); first | go_step | go_step3 | rw [Exit.noGoto_normal] | rw [Exit.noGoto_ret] | rw [Exit.noGoto_exit]))
  refine s_call Aa (by rfl) (by rfl) (by rfl) (by rfl) (by rfl) (by infer_instance) (hpu _ (hv.below hS.below)) ?_
  rintro e w5 ⟨g5, c5, rfl, hP5, hB5⟩
  refine ⟨_, rfl, ?_⟩
  refine Ad ?_
  replace hS := Ab.call hS hB5
  have hsm := same_pts L L (by rw [hrl]; omega) _ _ _ (hPv.below hB5) hP5
  rw [decide_eq_true (rfl : L = L)] at hsm
  clear hB hB5 hP5 hPv
  repeat' (first | ((with_reducible refine Ac ?_); first | ((first | refine Ai Aa ?_ | refine Al Aa ?_ | refine Af Aa ?_ | refine Av Aa Ab hS ?_ | refine Ba Aa Ab hS ?_ | refine Ag Aa ?_ | refine Ae Aa ?_ | refine Be Aa ?_ | refine g_cap Aa ?_ | refine Bl Aa ?_ | refine Bd Aa ?_ | refine Cj Aa ?_ | refine Ca Aa ?_ | refine Cz Aa ?_ | refine Cq Aa ?_ | refine Ak Aa ?_ | refine Aj Aa ?_ | refine Aw Aa (fun hc => ?_) (fun hc => ?_) | refine Cg Aa ?_ | refine Bz Aa ?_ | refine Ck Aa ?_ | refine Cd Aa ?_ | refine Az Aa ?_ | refine g_field1 Aa ?_ | refine g_fieldR Aa ?_ | refine Bx Aa ?_ | refine Bu Aa ?_ | refine Ax Aa ?_ | refine Dj Aa ?_ | refine Bq Aa ?_ | refine Bk Aa ?_ | refine Bw Aa ?_ | refine Bh Aa ?_ | refine Bc Aa ?_ | refine Au Aa ?_ | refine g_nilCheck Aa ?_ | refine Cp Aa ?_ | refine Ar Aa ?_) <;> refine Ad ?_) | ((first | refine Ay Aa Ab hS ?_ | refine Cu Aa Ab hS ?_ | refine Ao Aa Ab hS ?_ | refine As Aa Ab hS ?_ | refine g_make Aa Ab hS ?_); clear hS; intro b w hS; refine Ad ?_) | ((first | refine Br Aa Ab hS ?_ | refine Ap Aa Ab hS ?_ | refine Aq Aa Ab hS ?_); clear hS; intro w hS; refine Ad ?_) | (refine Ce Aa Ab hS (hsm) ?_; clear hS; intro w hS; refine Ad ?_)) | ((fail_if_success (with_reducible refine Ac ?_)); first | go_step | go_step3 | rw [Exit.noGoto_normal] | rw [Exit.noGoto_ret] | rw [Exit.noGoto_exit]))
  refine s_append Aa Ab hS (by rfl) (by rfl) (by rfl) (by rfl) (by infer_instance) (by exact at_ 0 rfl) (olds := []) (spare := []) (by rfl) (by rfl) (Nat.le_refl _) (by rfl) (xs := E.map bv) (src_blk (hS.blk 2 rfl) (fun j v h => by rw [Nat.zero_add]; exact (List.getElem?_append_left (List.getElem?_eq_some_iff.1 h).1).trans h)) (by rw [List.length_map, lE, Nat.mul_comm]) (bv_one E) (by unfold maxLen; omega) (nm := q + 2) (by omega) ?_
  clear hS
  intro gz cz spz w6 j1 j2 j3 hS
  rw [List.nil_append] at hS
  refine Ad ?_
  simp only [List.eraseIdx_cons_zero] at hS
  replace hS := hS.erase 1
  simp only [List.eraseIdx_cons_succ, List.eraseIdx_cons_zero] at hS
  have hAlt : M % (128 * (q + 2)) < 128 * (q + 2) := Nat.mod_lt _ (by omega)
  have hrA : ((M : Nat) : Int) % ((128 * (q + 2) : Nat) : Int) = ((M % (128 * (q + 2)) : Nat) : Int) := (Int.natCast_emod M (128 * (q + 2))).symm
  obtain ⟨A, hA⟩ : ∃ A, M % (128 * (q + 2)) = A := ⟨_, rfl⟩
  rw [hA] at hAlt hrA
  clear hA
  have hu : u64W (128 * ((q + 2 : Nat) : Int)) = 128 * (q + 2) := u64W_nat (by push_cast; rfl) (by omega)
  have hwA : wrap64 ((A : Nat) : Int) = (A : Int) := wrap_small2 (by omega)
  repeat' (first | ((with_reducible refine Ac ?_); first | (refine Stp.go Aa (by rfl) (by rfl) (r_convX (by rfl) (by rfl) (by infer_instance) (by infer_instance) hMM.out) ?_; refine Ad ?_) | (refine Stp.go Aa (by rfl) (by rfl) (r_convX (by rfl) (by rfl) (by infer_instance) (by infer_instance) hu) ?_; refine Ad ?_) | (refine Stp.go Aa (by rfl) (by rfl) (r_rem (by rfl) (by rfl) (by rfl) ⟨Int.natCast_nonneg M, by omega⟩ hrA) ?_; refine Ad ?_) | (refine Stp.go Aa (by rfl) (by rfl) (r_convR (by rfl) (by rfl) (by infer_instance) (by infer_instance) hwA) ?_; refine Ad ?_) | ((first | refine Ai Aa ?_ | refine Al Aa ?_ | refine Af Aa ?_ | refine Av Aa Ab hS ?_ | refine Ba Aa Ab hS ?_ | refine Ag Aa ?_ | refine Ae Aa ?_ | refine Be Aa ?_ | refine g_cap Aa ?_ | refine Bl Aa ?_ | refine Bd Aa ?_ | refine Cj Aa ?_ | refine Ca Aa ?_ | refine Cz Aa ?_ | refine Cq Aa ?_ | refine Ak Aa ?_ | refine Aj Aa ?_ | refine Aw Aa (fun hc => ?_) (fun hc => ?_) | refine Cg Aa ?_ | refine Bz Aa ?_ | refine Ck Aa ?_ | refine Cd Aa ?_ | refine Az Aa ?_ | refine g_field1 Aa ?_ | refine g_fieldR Aa ?_ | refine Bx Aa ?_ | refine Bu Aa ?_ | refine Ax Aa ?_ | refine Dj Aa ?_ | refine Bq Aa ?_ | refine Bk Aa ?_ | refine Bw Aa ?_ | refine Bh Aa ?_ | refine Bc Aa ?_ | refine Au Aa ?_ | refine g_nilCheck Aa ?_ | refine Cp Aa ?_ | refine Ar Aa ?_) <;> refine Ad ?_) | ((first | refine Ay Aa Ab hS ?_ | refine Cu Aa Ab hS ?_ | refine Ao Aa Ab hS ?_ | refine As Aa Ab hS ?_ | refine g_make Aa Ab hS ?_); clear hS; intro b w hS; refine Ad ?_) | ((first | refine Br Aa Ab hS ?_ | refine Ap Aa Ab hS ?_ | refine Aq Aa Ab hS ?_); clear hS; intro w hS; refine Ad ?_)) | ((fail_if_success (with_reducible refine Ac ?_)); first | go_step | go_step3 | rw [Exit.noGoto_normal] | rw [Exit.noGoto_ret] | rw [Exit.noGoto_exit]))
  have hfA := hfl A
  clear hrA hu hwA hfl
  obtain ⟨sq, hsq⟩ : ∃ x, A / 128 = x := ⟨_, rfl⟩
  obtain ⟨st, hst⟩ : ∃ x, A % 128 = x := ⟨_, rfl⟩
  have hs1 : sq < q + 2 := by omega
  have hs2 : st < 128 := by omega
  have hs3 : sq * 128 + st = A := by omega
  have hqA : ((A : Nat) : Int) / 128 = (sq : Int) := by omega
  have hqB : ((A : Nat) : Int) % 128 = (st : Int) := by omega
  have h8 : ((M : Nat) : Int) % 8 = ((M % 8 : Nat) : Int) := (Int.natCast_emod M 8).symm
  have h8l : M % 8 < 8 := Nat.mod_lt _ (by omega)
  obtain ⟨j8, hj8⟩ : ∃ x, M % 8 = x := ⟨_, rfl⟩
  rw [hj8] at h8 h8l
  clear hj8 hsq hst
  obtain ⟨bb, hbb⟩ : ∃ y, E[A]? = some y := ⟨_, List.getElem?_eq_getElem (by omega)⟩
  have hgat : ((E.map bv ++ spz).toArray)[sq * 128 + st]? = some (.int .u8 (bb.toNat : Int)) := by
    rw [hs3, List.getElem?_toArray, List.getElem?_append_left (by rw [List.length_map]; omega), List.getElem?_map, hbb]; rfl
  have hszz : sq * 128 + st < csz ((E.map bv ++ spz).toArray) := by rw [csz_is]; exact (Array.getElem?_eq_some_iff.1 hgat).1
  have hny : E[A]? ≠ some (bb ^^^ bitB j8) := by
    rw [hbb]
    intro e
    exact xor_bit_ne h8l (Option.some.inj e).symm
  have hset := set_row (X := E) (sp := spz) (i := sq * 128 + st) (y := bb ^^^ bitB j8) (by omega)
  rw [hs3] at hset
  obtain ⟨y, hy⟩ : ∃ y, bb ^^^ bitB j8 = y := ⟨_, rfl⟩
  rw [hy] at hny hset
  replace hfA := hfA y hAlt hny
  have lY : (E.set A y).length = 128 * (q + 2) := by rw [List.length_set, lE]
  refine Bv 15 (by kernel_rfl) (by kernel_rfl) ?_
  dsimp only [List.take, List.drop]
  iterate 15 (first | (refine Dc (fun _ => rfl) ?_; simp only [Act.put, List.setIfInBounds_toArray, List.set_cons_zero, List.set_cons_succ]) | (refine Cw (by rfl) (fun _ => rfl) _ (fun w => r_alloc (a := ⟨#[], []⟩) rfl (by infer_instance)) ?_; simp only [Act.put, List.setIfInBounds_toArray, List.set_cons_zero, List.set_cons_succ]) | (refine Cr rfl (fun _ => rfl) (fun K hK => ?_); apply Exists.intro; apply Exists.intro; apply Exists.intro; apply Exists.intro; refine ⟨fun pB w' hw' hF => ?_, hK _ _ ?_⟩; (focus (exact Cf (by rfl) (by rfl) (by infer_instance) (by rfl) (by repeat (first | exact (fun _ h => absurd h List.not_mem_nil) | refine List.forall_mem_cons.2 ⟨by first | rfl | (simp only [Value.cells]; first | rfl | omega), ?_⟩)) (by (try conv => lhs; simp only [List.flatMap_cons, List.flatMap_nil, Value.cells, List.append_nil, List.cons_append, List.nil_append]); first | done | rfl) (by decide) (by decide))); clear hK K; simp only [Act.put, List.setIfInBounds_toArray, List.set_cons_zero, List.set_cons_succ]) | (refine Dd (fun _ => rfl) (fun K hK => ?_); apply Exists.intro; refine ⟨fun pB w' hw' hF => ?_, hK _ _ ?_⟩; (focus (have hZ := (Ab).call hS hw'; first | exact (Cn (r_convX (by rfl) (by rfl) (by infer_instance) (by infer_instance) hMM.out)) | exact (Cn (r_quo (by rfl) (by rfl) (by rfl) ⟨Int.natCast_nonneg A, by decide⟩ (fits_i64 (by omega)) hqA)) | exact (Cn (r_rem (by rfl) (by rfl) (by rfl) ⟨Int.natCast_nonneg A, by decide⟩ hqB)) | exact (Cn (r_rem (by rfl) (by rfl) (by rfl) ⟨Int.natCast_nonneg M, by decide⟩ h8)) | exact (Cn (r_shl8 (by rfl) (by rfl) (by rfl) h8l)) | exact (Cn (r_xor8 (by rfl) (by rfl) (by rfl) hy)) | exact q_move | exact Dh | exact q_load1 Ab hZ (hv := by first | rfl | exact Bi | (rw [Array.getElem?_toList]; exact hgat)) | exact q_loadR Ab hZ (hv := by first | exact Bo _ _ (by (try simp only [Bn, Bg, Bm, List.length_append, List.length_set, zs_len, List.length_take, List.length_drop, List.length_cons, List.length_nil]); first | done | rfl | omega) | (exact hgat) | rfl) | exact Ci | exact Cb | exact q_len | exact q_cap | exact Cy | exact q_add | exact q_sub | exact q_mul | exact q_quo | exact q_rem | exact q_cmp_t | exact q_cmp_f | exact De | exact Cx | exact Df | exact Cv | exact Ch | exact Di (hv' := by first | rfl | exact Bi | (rw [Array.getElem?_toList]; exact hgat)) | exact Dg | exact Cm | exact Co | exact Bt | exact Cl | exact q_conv | exact q_pick | exact q_not | exact Db | exact Ct | exact Cc | exact Dk | exact Dl | exact Cs)); clear hK K; simp only [Act.put, List.setIfInBounds_toArray, List.set_cons_zero, List.set_cons_succ]))
  refine wpM_nil ?_
  intro pB w hcq hfq hnq
  replace hS := (Ab).news hS hcq _ (by first | decide | simp) hfq hnq
  first | simp only [List.map_nil, List.nil_append] at hS | simp only [List.map_cons, List.map_nil, List.cons_append, List.nil_append] at hS
  clear hcq hfq hnq
  try dsimp only
  refine s_store1 (i := 0) Aa Ab hS (by rfl) (by rfl) (by rfl) (by rfl) (by infer_instance) rfl (by rfl) hszz (by (try conv => lhs; simp only [List.set_cons_zero, List.set_cons_succ, List.eraseIdx_cons_zero, List.eraseIdx_cons_succ]); first | done | rfl) ?_
  clear hS
  intro w7 hS
  rw [hs3, hset] at hS
  refine Ad ?_
  clear hset hgat hszz hny hbb hqA hqB h8 hs3 hs1 hs2
  repeat' (first | ((with_reducible refine Ac ?_); first | ((first | refine Ai Aa ?_ | refine Al Aa ?_ | refine Af Aa ?_ | refine Av Aa Ab hS ?_ | refine Ba Aa Ab hS ?_ | refine Ag Aa ?_ | refine Ae Aa ?_ | refine Be Aa ?_ | refine g_cap Aa ?_ | refine Bl Aa ?_ | refine Bd Aa ?_ | refine Cj Aa ?_ | refine Ca Aa ?_ | refine Cz Aa ?_ | refine Cq Aa ?_ | refine Ak Aa ?_ | refine Aj Aa ?_ | refine Aw Aa (fun hc => ?_) (fun hc => ?_) | refine Cg Aa ?_ | refine Bz Aa ?_ | refine Ck Aa ?_ | refine Cd Aa ?_ | refine Az Aa ?_ | refine g_field1 Aa ?_ | refine g_fieldR Aa ?_ | refine Bx Aa ?_ | refine Bu Aa ?_ | refine Ax Aa ?_ | refine Dj Aa ?_ | refine Bq Aa ?_ | refine Bk Aa ?_ | refine Bw Aa ?_ | refine Bh Aa ?_ | refine Bc Aa ?_ | refine Au Aa ?_ | refine g_nilCheck Aa ?_ | refine Cp Aa ?_ | refine Ar Aa ?_) <;> refine Ad ?_) | ((first | refine Ay Aa Ab hS ?_ | refine Cu Aa Ab hS ?_ | refine Ao Aa Ab hS ?_ | refine As Aa Ab hS ?_ | refine g_make Aa Ab hS ?_); clear hS; intro b w hS; refine Ad ?_) | ((first | refine Br Aa Ab hS ?_ | refine Ap Aa Ab hS ?_ | refine Aq Aa Ab hS ?_); clear hS; intro w hS; refine Ad ?_)) | ((fail_if_success (with_reducible refine Ac ?_)); first | go_step | go_step3 | rw [Exit.noGoto_normal] | rw [Exit.noGoto_ret] | rw [Exit.noGoto_exit]))
  have hCA : CellsAt w7 (.slice (some ⟨gz, 0, none⟩) (q + 2) cz) (E.set A y) (q + 2) := CellsAt.own lY j1 (hS.blk 0 rfl)
  have hde := decode_any key hk6 _ _ (by omega) _ _ _ (hkv.below hS.below) hCA
  refine s_call Aa (by rfl) (by rfl) (by rfl) (by rfl) (by rfl) (by infer_instance) hde ?_
  rintro e w8 ⟨ok, cnt, pv, l3, rfl, hR, hk3, ht3, hf3, hB⟩
  refine ⟨_, rfl, ?_⟩
  refine Ad ?_
  replace hS := Ab.call hS hB
  clear hde hCA hB
  cases ok with
  | false =>
    repeat' (first | ((with_reducible refine Ac ?_); first | ((first | refine Ai Aa ?_ | refine Al Aa ?_ | refine Af Aa ?_ | refine Av Aa Ab hS ?_ | refine Ba Aa Ab hS ?_ | refine Ag Aa ?_ | refine Ae Aa ?_ | refine Be Aa ?_ | refine g_cap Aa ?_ | refine Bl Aa ?_ | refine Bd Aa ?_ | refine Cj Aa ?_ | refine Ca Aa ?_ | refine Cz Aa ?_ | refine Cq Aa ?_ | refine Ak Aa ?_ | refine Aj Aa ?_ | refine Aw Aa (fun hc => ?_) (fun hc => ?_) | refine Cg Aa ?_ | refine Bz Aa ?_ | refine Ck Aa ?_ | refine Cd Aa ?_ | refine Az Aa ?_ | refine g_field1 Aa ?_ | refine g_fieldR Aa ?_ | refine Bx Aa ?_ | refine Bu Aa ?_ | refine Ax Aa ?_ | refine Dj Aa ?_ | refine Bq Aa ?_ | refine Bk Aa ?_ | refine Bw Aa ?_ | refine Bh Aa ?_ | refine Bc Aa ?_ | refine Au Aa ?_ | refine g_nilCheck Aa ?_ | refine Cp Aa ?_ | refine Ar Aa ?_) <;> refine Ad ?_) | ((first | refine Ay Aa Ab hS ?_ | refine Cu Aa Ab hS ?_ | refine Ao Aa Ab hS ?_ | refine As Aa Ab hS ?_ | refine g_make Aa Ab hS ?_); clear hS; intro b w hS; refine Ad ?_) | ((first | refine Br Aa Ab hS ?_ | refine Ap Aa Ab hS ?_ | refine Aq Aa Ab hS ?_); clear hS; intro w hS; refine Ad ?_)) | ((fail_if_success (with_reducible refine Ac ?_)); first | go_step | go_step3 | rw [Exit.noGoto_normal] | rw [Exit.noGoto_ret] | rw [Exit.noGoto_exit]))
    go_ret
    exact ⟨rfl, hS.below⟩
  | true =>
  have hdt := hk3.1 rfl
  obtain ⟨hol, hl56, htag, hm2⟩ := dec_true2 lY hdt
  obtain ⟨hne, hsame⟩ := hfA hdt
  rw [(ht3 rfl).2] at hR
  have hPv := hR.puts hol
  obtain ⟨p9, c9, hp9⟩ := hR.slice
  subst hp9
  obtain ⟨_, pq, cq, e1, hcq2, _, hpcell⟩ := hPv
  cases e1
  obtain ⟨Y, hY⟩ : ∃ Y, E.set A y = Y := ⟨_, rfl⟩
  rw [hY] at hS lY hne hsame hol hl56 hcq2 hpcell ⊢
  obtain ⟨P3, hP3⟩ : ∃ P, putsD Y = P := ⟨_, rfl⟩
  rw [hP3] at hne hsame hol hl56 hcq2 hpcell ⊢
  clear hk3 ht3 hf3 hR htag hdt hfA hY hP3
  have hBW := hS.below
  have hgz := hS.blk 0 rfl
  have hgx := hS.blk 1 rfl
  replace hkv := hkv.below hS.below
  clear hS
  have hS := St.start w8
  have lY0 := celX_len lY (show 0 < q + 2 by omega)
  have hb0 : ∀ w', blk w' gz = some (.cells (Y.map bv ++ spz).toArray 30 (0, 0)) → BytesAt w' (.slice (some ⟨gz, 0 + 0 * 128, none⟩) 128 128) (celX Y 0) := fun w' h => celX_bytes (i := 0) (c := 128) (o := 0) lY (by omega) h own_cells rfl (Nat.le_refl _)
  have hCX : ∀ w', blk w' gx = some (.cells (E.map bv ++ spx).toArray 30 (0, 0)) → CellsAt w' (.slice (some ⟨gx, 0, none⟩) (q + 2) cx) E (q + 2) := fun w' h => CellsAt.own lE k4 h
  repeat' (first | ((with_reducible refine Ac ?_); first | ((first | refine Ai Aa ?_ | refine Al Aa ?_ | refine Af Aa ?_ | refine Av Aa Ab hS ?_ | refine Bs Aa (by first | exact ((hS).far hgz).1) ?_ | refine Ba Aa Ab hS ?_ | refine Da Aa (by first | exact ((hS).far hgz).1) ?_ | refine Ag Aa ?_ | refine Ae Aa ?_ | refine Be Aa ?_ | refine g_cap Aa ?_ | refine Bl Aa ?_ | refine Bd Aa ?_ | refine Cj Aa ?_ | refine Ca Aa ?_ | refine Cz Aa ?_ | refine Cq Aa ?_ | refine Ak Aa ?_ | refine Aj Aa ?_ | refine Aw Aa (fun hc => ?_) (fun hc => ?_) | refine Cg Aa ?_ | refine Bz Aa ?_ | refine Ck Aa ?_ | refine Cd Aa ?_ | refine Az Aa ?_ | refine g_field1 Aa ?_ | refine g_fieldR Aa ?_ | refine Bx Aa ?_ | refine Bu Aa ?_ | refine Ax Aa ?_ | refine Dj Aa ?_ | refine Bq Aa ?_ | refine Bk Aa ?_ | refine Bw Aa ?_ | refine Bh Aa ?_ | refine Bc Aa ?_ | refine Au Aa ?_ | refine g_nilCheck Aa ?_ | refine Cp Aa ?_ | refine Ar Aa ?_) <;> refine Ad ?_) | ((first | refine Ay Aa Ab hS ?_ | refine Cu Aa Ab hS ?_ | refine Ao Aa Ab hS ?_ | refine As Aa Ab hS ?_ | refine g_make Aa Ab hS ?_); clear hS; intro b w hS; refine Ad ?_) | ((first | refine Br Aa Ab hS ?_ | refine Ap Aa Ab hS ?_ | refine Aq Aa Ab hS ?_); clear hS; intro w hS; refine Ad ?_)) | ((fail_if_success (with_reducible refine Ac ?_)); first | go_step | go_step3 | rw [Exit.noGoto_normal] | rw [Exit.noGoto_ret] | rw [Exit.noGoto_exit]))
  refine s_appX Aa Ab hS (by rfl) (by rfl) (by rfl) (by rfl) (by infer_instance) (by exact at_ 0 rfl) (l := []) (spare := []) (by rfl) rfl (Nat.le_refl _) (by rfl) (hb0 _ (hS.far hgz).1) (by rw [lY0]; decide) (nm := 128) (by rw [lY0]; rfl) ?_
  clear hS
  intro bt ct spt w9 j1 j2 j3 hS
  rw [List.nil_append] at hS
  refine Ad ?_
  have lG := tagL_len key (celX Y 0 ++ bodyL P3)
  have lG2 := tagL_len key (txtL E)
  obtain ⟨Y0, hY0⟩ : ∃ x, celX Y 0 = x := ⟨_, rfl⟩
  rw [hY0] at hS lY0 hne hsame lG
  obtain ⟨q3, hq3⟩ : ∃ q, P3.length = q := ⟨_, rfl⟩
  rw [hq3] at hcq2 hl56 ⊢
  have s2 : csz (hdV 0 (zs 128)) = 129 := by rw [hdV_size, zs_len]
  clear hb0
  repeat' (first | ((with_reducible refine Ac ?_); first | ((first | refine Ai Aa ?_ | refine Al Aa ?_ | refine Af Aa ?_ | refine Av Aa Ab hS ?_ | refine Ba Aa Ab hS ?_ | refine Ag Aa ?_ | refine Ae Aa ?_ | refine Be Aa ?_ | refine g_cap Aa ?_ | refine Bl Aa ?_ | refine Bd Aa ?_ | refine Cj Aa ?_ | refine Ca Aa ?_ | refine Cz Aa ?_ | refine Cq Aa ?_ | refine Ak Aa ?_ | refine Aj Aa ?_ | refine Aw Aa (fun hc => ?_) (fun hc => ?_) | refine Cg Aa ?_ | refine Bz Aa ?_ | refine Ck Aa ?_ | refine Cd Aa ?_ | refine Az Aa ?_ | refine g_field1 Aa ?_ | refine g_fieldR Aa ?_ | refine Bx Aa ?_ | refine Bu Aa ?_ | refine Ax Aa ?_ | refine Dj Aa ?_ | refine Bq Aa ?_ | refine Bk Aa ?_ | refine Bw Aa ?_ | refine Bh Aa ?_ | refine Bc Aa ?_ | refine Au Aa ?_ | refine g_nilCheck Aa ?_ | refine Cp Aa ?_ | refine Ar Aa ?_) <;> refine Ad ?_) | ((first | refine Ay Aa Ab hS ?_ | refine Cu Aa Ab hS ?_ | refine Ao Aa Ab hS ?_ | refine As Aa Ab hS ?_ | refine g_make Aa Ab hS ?_); clear hS; intro b w hS; refine Ad ?_) | ((first | refine Br Aa Ab hS ?_ | refine Ap Aa Ab hS ?_ | refine Aq Aa Ab hS ?_); clear hS; intro w hS; refine Ad ?_)) | ((fail_if_success (with_reducible refine Ac ?_)); first | go_step | go_step3 | rw [Exit.noGoto_normal] | rw [Exit.noGoto_ret] | rw [Exit.noGoto_exit]))
  go_loopw [19, 21, 117] (fun u19 u21 u117 wr => ∃ (k g c : Nat) (sp : List Value), k ≤ q3 ∧ u117 = .int .i64 (k : Int) ∧ u19 = .slice (some ⟨g, 0, none⟩) (128 + 128 * k) c ∧ 128 + 128 * k ≤ c ∧ c ≤ maxLen ∧ sp.length = c - (128 + 128 * k) ∧ St w8 wr [(g, ((Y0 ++ bodyL (P3.take k)).map bv ++ sp).toArray, 5)]) (fun _ _ u117 _ => q3 - (intOf u117).toNat)
  case atStart => exact ⟨0, bt, ct, spt, by omega, rfl, rfl, j1, j2, j3, by rw [List.take_zero]; show St _ _ [(bt, ((Y0 ++ []).map bv ++ spt).toArray, _)]; rw [List.append_nil]; exact hS⟩
  case round =>
    clear hS j1 j2 j3
    obtain ⟨k, g, c4, sp, hk1, rfl, rfl, j1, j2, j3, hS⟩ := hrel
    have j2' := j2
    unfold maxLen at j2'
    have hlk : (Y0 ++ bodyL (P3.take k)).length = 128 + 128 * k := by
      rw [List.length_append, lY0, bodyL_len (fun x hx' => hol x (List.mem_of_mem_take hx')), List.length_take]; omega
    by_cases hlt : k < q3
    · obtain ⟨⟨a, C⟩, hx⟩ : ∃ x, P3[k]? = some x := ⟨_, List.getElem?_eq_getElem (by omega)⟩
      obtain ⟨b0, o0, cs, ty, fr, rfl, hb, hcc⟩ := hpcell (by intro e; rw [e] at hq3; simp at hq3; omega)
      obtain ⟨lC, d1, d2, d3, d4⟩ := put_cells hol hcc hx
      have s1 : csz (hdV a C) = 129 := by rw [hdV_size, lC]
      have hbd := bodyL_next hx
      obtain ⟨Z, hZ⟩ : ∃ Z, Y0 ++ bodyL (P3.take k) = Z := ⟨_, rfl⟩
      rw [hZ] at hS hlk
      have hZ2 : Z ++ C = Y0 ++ bodyL (P3.take (k + 1)) := by rw [hbd, ← hZ, List.append_assoc]
      have hbq : ∀ w' b', blk w' b' = some (.cells (hdV a C) 70 (0, 0)) → BytesAt w' (.slice (some ⟨b', 1, none⟩) 128 128) C := fun w' b' h => by
        have := hd_bytes h 0 128 128 (by omega) (Nat.le_refl _)
        rwa [List.drop_zero, List.take_of_length_le (by omega)] at this
      clear hZ
      repeat' (first | ((with_reducible refine Ac ?_); first | (refine Ap Aa Ab hS ?_ (hv := hdV_ones _ _); clear hS; intro w hS; refine Ad ?_) | ((first | refine Ai Aa ?_ | refine Al Aa ?_ | refine Af Aa ?_ | refine Av Aa Ab hS ?_ (hv := by first | rfl | exact Bi | (rw [Array.getElem?_toList]; first | exact d2)) | refine Bs Aa (by first | exact ((hS).far hb).1) ?_ (hv := by first | rfl | exact Bi | (rw [Array.getElem?_toList]; first | exact d2)) | refine Ba Aa Ab hS ?_ (hv := by first | exact Bo _ _ (by (try simp only [Bn, Bg, Bm, List.length_append, List.length_set, zs_len, List.length_take, List.length_drop, List.length_cons, List.length_nil]); first | done | rfl | omega) | (first | exact d2) | rfl) | refine Da Aa (by first | exact ((hS).far hb).1) ?_ (hv := by first | exact Bo _ _ (by (try simp only [Bn, Bg, Bm, List.length_append, List.length_set, zs_len, List.length_take, List.length_drop, List.length_cons, List.length_nil]); first | done | rfl | omega) | (first | exact d2) | rfl) | refine Ag Aa ?_ | refine Ae Aa ?_ | refine Be Aa ?_ | refine g_cap Aa ?_ | refine Bl Aa ?_ | refine Bd Aa ?_ | refine Cj Aa ?_ | refine Ca Aa ?_ | refine Cz Aa ?_ | refine Cq Aa ?_ | refine Ak Aa ?_ | refine Aj Aa ?_ | refine Aw Aa (fun hc => ?_) (fun hc => ?_) | refine Cg Aa ?_ | refine Bz Aa ?_ | refine Ck Aa ?_ | refine Cd Aa ?_ | refine Az Aa ?_ | refine g_field1 Aa ?_ (hv' := by first | rfl | exact Bi | (rw [Array.getElem?_toList]; first | exact d2)) | refine g_fieldR Aa ?_ | refine Bx Aa ?_ | refine Bu Aa ?_ | refine Ax Aa ?_ | refine Dj Aa ?_ | refine Bq Aa ?_ | refine Bk Aa ?_ | refine Bw Aa ?_ | refine Bh Aa ?_ | refine Bc Aa ?_ | refine Au Aa ?_ | refine g_nilCheck Aa ?_ | refine Cp Aa ?_ | refine Ar Aa ?_) <;> refine Ad ?_) | ((first | refine Ay Aa Ab hS ?_ | refine Cu Aa Ab hS ?_ | refine Ao Aa Ab hS ?_ | refine As Aa Ab hS ?_ | refine g_make Aa Ab hS ?_); clear hS; intro b w hS; refine Ad ?_) | ((first | refine Br Aa Ab hS ?_ | refine Ap Aa Ab hS ?_ | refine Aq Aa Ab hS ?_); clear hS; intro w hS; refine Ad ?_)) | ((fail_if_success (with_reducible refine Ac ?_)); first | go_step | go_step3 | rw [Exit.noGoto_normal] | rw [Exit.noGoto_ret] | rw [Exit.noGoto_exit]))
      refine s_appX Aa Ab hS (by rfl) (by rfl) (by rfl) (by rfl) (by infer_instance) (by exact at_ 1 rfl) (l := Z) (spare := sp) (by rfl) hlk j1 j3 (hbq _ _ (hS.blk 0 rfl)) (by unfold maxLen; omega) (nm := 128 + 128 * (k + 1)) (by omega) ?_
      clear hS
      intro bt ct spt w6 z1 z2 z3 hS
      rw [hZ2] at hS
      replace hS := hS.take 1
      refine Ad ?_
      repeat' (first | ((with_reducible refine Ac ?_); first | ((first | refine Ai Aa ?_ | refine Al Aa ?_ | refine Af Aa ?_ | refine Av Aa Ab hS ?_ | refine Ba Aa Ab hS ?_ | refine Ag Aa ?_ | refine Ae Aa ?_ | refine Be Aa ?_ | refine g_cap Aa ?_ | refine Bl Aa ?_ | refine Bd Aa ?_ | refine Cj Aa ?_ | refine Ca Aa ?_ | refine Cz Aa ?_ | refine Cq Aa ?_ | refine Ak Aa ?_ | refine Aj Aa ?_ | refine Aw Aa (fun hc => ?_) (fun hc => ?_) | refine Cg Aa ?_ | refine Bz Aa ?_ | refine Ck Aa ?_ | refine Cd Aa ?_ | refine Az Aa ?_ | refine g_field1 Aa ?_ | refine g_fieldR Aa ?_ | refine Bx Aa ?_ | refine Bu Aa ?_ | refine Ax Aa ?_ | refine Dj Aa ?_ | refine Bq Aa ?_ | refine Bk Aa ?_ | refine Bw Aa ?_ | refine Bh Aa ?_ | refine Bc Aa ?_ | refine Au Aa ?_ | refine g_nilCheck Aa ?_ | refine Cp Aa ?_ | refine Ar Aa ?_) <;> refine Ad ?_) | ((first | refine Ay Aa Ab hS ?_ | refine Cu Aa Ab hS ?_ | refine Ao Aa Ab hS ?_ | refine As Aa Ab hS ?_ | refine g_make Aa Ab hS ?_); clear hS; intro b w hS; refine Ad ?_) | ((first | refine Br Aa Ab hS ?_ | refine Ap Aa Ab hS ?_ | refine Aq Aa Ab hS ?_); clear hS; intro w hS; refine Ad ?_)) | ((fail_if_success (with_reducible refine Ac ?_)); first | go_step | go_step3 | rw [Exit.noGoto_normal] | rw [Exit.noGoto_ret] | rw [Exit.noGoto_exit]))
      go_roundw
      case rel => exact ⟨k + 1, bt, ct, spt, by omega, by push_cast; rfl, rfl, z1, z2, z3, hS⟩
      case measure => first | (simp [intOf]; done) | (simp [intOf]; omega)
    · obtain rfl : k = q3 := by omega
      rw [List.take_of_length_le (by omega)] at hS hlk
      obtain ⟨T1, hT1⟩ : ∃ T, Y0 ++ bodyL P3 = T := ⟨_, rfl⟩
      rw [hT1] at hS hlk hne hsame lG
      clear hT1 hpcell hol
      have hbT : ∀ w', St w8 w' [(g, (T1.map bv ++ sp).toArray, 5)] → BytesAt w' (.slice (some ⟨g, 0, none⟩) (128 + 128 * k) c4) T1 := fun w' h => bytesAt_blk (h.blk 0 rfl) hlk j1 (fun j x hj => by rw [Nat.zero_add, List.getElem?_toArray, List.getElem?_append_left (by rw [List.length_map]; exact (List.getElem?_eq_some_iff.1 hj).1), List.getElem?_map, hj]; rfl)
      repeat' (first | ((with_reducible refine Ac ?_); first | ((first | refine Ai Aa ?_ | refine Al Aa ?_ | refine Af Aa ?_ | refine Av Aa Ab hS ?_ | refine Ba Aa Ab hS ?_ | refine Ag Aa ?_ | refine Ae Aa ?_ | refine Be Aa ?_ | refine g_cap Aa ?_ | refine Bl Aa ?_ | refine Bd Aa ?_ | refine Cj Aa ?_ | refine Ca Aa ?_ | refine Cz Aa ?_ | refine Cq Aa ?_ | refine Ak Aa ?_ | refine Aj Aa ?_ | refine Aw Aa (fun hc => ?_) (fun hc => ?_) | refine Cg Aa ?_ | refine Bz Aa ?_ | refine Ck Aa ?_ | refine Cd Aa ?_ | refine Az Aa ?_ | refine g_field1 Aa ?_ | refine g_fieldR Aa ?_ | refine Bx Aa ?_ | refine Bu Aa ?_ | refine Ax Aa ?_ | refine Dj Aa ?_ | refine Bq Aa ?_ | refine Bk Aa ?_ | refine Bw Aa ?_ | refine Bh Aa ?_ | refine Bc Aa ?_ | refine Au Aa ?_ | refine g_nilCheck Aa ?_ | refine Cp Aa ?_ | refine Ar Aa ?_) <;> refine Ad ?_) | ((first | refine Ay Aa Ab hS ?_ | refine Cu Aa Ab hS ?_ | refine Ao Aa Ab hS ?_ | refine As Aa Ab hS ?_ | refine g_make Aa Ab hS ?_); clear hS; intro b w hS; refine Ad ?_) | ((first | refine Br Aa Ab hS ?_ | refine Ap Aa Ab hS ?_ | refine Aq Aa Ab hS ?_); clear hS; intro w hS; refine Ad ?_)) | ((fail_if_success (with_reducible refine Ac ?_)); first | go_step | go_step3 | rw [Exit.noGoto_normal] | rw [Exit.noGoto_ret] | rw [Exit.noGoto_exit]))
      refine s_call Aa (by rfl) (by rfl) (by rfl) (by rfl) (by rfl) (by infer_instance) (back1_any E (q + 2) (by omega) (by omega) _ _ (hCX _ (hS.far hgx).1)) ?_
      rintro e w10 ⟨g6, c6, rfl, hT6, hB⟩
      refine ⟨_, rfl, ?_⟩
      refine Ad ?_
      replace hS := Ab.call hS hB
      have hsa := same_txt T1 (txtL E) _ _ _ (hbT _ hS) hT6
      rw [decide_eq_false hne] at hsa
      clear hB hT6
      have lT1 : T1.length ≤ 100000 := by omega
      have htg := fun w' (h : St w8 w' [(g, (T1.map bv ++ sp).toArray, 5)]) => refTag_any key T1 hk6 lT1 _ _ w' (hkv.below h.below) (hbT w' h)
      have lTE : (txtL E).length ≤ 100000 := by
        unfold txtL
        rw [List.length_append, celX_len lE (show 0 < q + 2 by omega), List.length_drop]; omega
      have hqq : (tagL key T1 == tagL key (txtL E)) = true := by rw [hsame]; simp
      obtain ⟨G1, hG1⟩ : ∃ G, tagL key T1 = G := ⟨_, rfl⟩
      obtain ⟨G2, hG2⟩ : ∃ G, tagL key (txtL E) = G := ⟨_, rfl⟩
      rw [hG1] at htg hqq lG
      rw [hG2] at hqq lG2
      have sG1 : csz (bvs G1) = 32 := by rw [Bg, lG]
      repeat' (first | ((with_reducible refine Ac ?_); first | ((first | refine Ai Aa ?_ | refine Al Aa ?_ | refine Af Aa ?_ | refine Av Aa Ab hS ?_ | refine Ba Aa Ab hS ?_ | refine Ag Aa ?_ | refine Ae Aa ?_ | refine Be Aa ?_ | refine g_cap Aa ?_ | refine Bl Aa ?_ | refine Bd Aa ?_ | refine Cj Aa ?_ | refine Ca Aa ?_ | refine Cz Aa ?_ | refine Cq Aa ?_ | refine Ak Aa ?_ | refine Aj Aa ?_ | refine Aw Aa (fun hc => ?_) (fun hc => ?_) | refine Cg Aa ?_ | refine Bz Aa ?_ | refine Ck Aa ?_ | refine Cd Aa ?_ | refine Az Aa ?_ | refine g_field1 Aa ?_ | refine g_fieldR Aa ?_ | refine Bx Aa ?_ | refine Bu Aa ?_ | refine Ax Aa ?_ | refine Dj Aa ?_ | refine Bq Aa ?_ | refine Bk Aa ?_ | refine Bw Aa ?_ | refine Bh Aa ?_ | refine Bc Aa ?_ | refine Au Aa ?_ | refine g_nilCheck Aa ?_ | refine Cp Aa ?_ | refine Ar Aa ?_) <;> refine Ad ?_) | ((first | refine Ay Aa Ab hS ?_ | refine Cu Aa Ab hS ?_ | refine Ao Aa Ab hS ?_ | refine As Aa Ab hS ?_ | refine g_make Aa Ab hS ?_); clear hS; intro b w hS; refine Ad ?_) | ((first | refine Br Aa Ab hS ?_ | refine Ap Aa Ab hS ?_ | refine Aq Aa Ab hS ?_); clear hS; intro w hS; refine Ad ?_) | (refine Ce Aa Ab hS (hsa) ?_; clear hS; intro w hS; refine Ad ?_) | (refine Ce Aa Ab hS (htg _ hS) ?_; clear hS; intro w hS; refine Ad ?_)) | ((fail_if_success (with_reducible refine Ac ?_)); first | go_step | go_step3 | rw [Exit.noGoto_normal] | rw [Exit.noGoto_ret] | rw [Exit.noGoto_exit]))
      refine s_call Aa (by rfl) (by rfl) (by rfl) (by rfl) (by rfl) (by infer_instance) (back1_any E (q + 2) (by omega) (by omega) _ _ (hCX _ (hS.far hgx).1)) ?_
      rintro e w11 ⟨g7, c7, rfl, hT7, hB⟩
      refine ⟨_, rfl, ?_⟩
      refine Ad ?_
      replace hS := Ab.call hS hB
      have htg2 := refTag_any key (txtL E) hk6 lTE _ _ _ (hkv.below hS.below) hT7
      rw [hG2] at htg2
      clear hB hT7 hG1 hG2
      repeat' (first | ((with_reducible refine Ac ?_); first | ((first | refine Ai Aa ?_ | refine Al Aa ?_ | refine Af Aa ?_ | refine Av Aa Ab hS ?_ | refine Ba Aa Ab hS ?_ | refine Ag Aa ?_ | refine Ae Aa ?_ | refine Be Aa ?_ | refine g_cap Aa ?_ | refine Bl Aa ?_ | refine Bd Aa ?_ | refine Cj Aa ?_ | refine Ca Aa ?_ | refine Cz Aa ?_ | refine Cq Aa ?_ | refine Ak Aa ?_ | refine Aj Aa ?_ | refine Aw Aa (fun hc => ?_) (fun hc => ?_) | refine Cg Aa ?_ | refine Bz Aa ?_ | refine Ck Aa ?_ | refine Cd Aa ?_ | refine Az Aa ?_ | refine g_field1 Aa ?_ | refine g_fieldR Aa ?_ | refine Bx Aa ?_ | refine Bu Aa ?_ | refine Ax Aa ?_ | refine Dj Aa ?_ | refine Bq Aa ?_ | refine Bk Aa ?_ | refine Bw Aa ?_ | refine Bh Aa ?_ | refine Bc Aa ?_ | refine Au Aa ?_ | refine g_nilCheck Aa ?_ | refine Cp Aa ?_ | refine Ar Aa ?_) <;> refine Ad ?_) | ((first | refine Ay Aa Ab hS ?_ | refine Cu Aa Ab hS ?_ | refine Ao Aa Ab hS ?_ | refine As Aa Ab hS ?_ | refine g_make Aa Ab hS ?_); clear hS; intro b w hS; refine Ad ?_) | ((first | refine Br Aa Ab hS ?_ | refine Ap Aa Ab hS ?_ | refine Aq Aa Ab hS ?_); clear hS; intro w hS; refine Ad ?_) | (refine Ce Aa Ab hS (htg2) ?_; clear hS; intro w hS; refine Ad ?_) | (refine Stp.go Aa (by rfl) (by rfl) (r_eqCel (by rfl) (by rfl) (by rfl) (by kernel_rfl) (by kernel_rfl) lG lG2 hqq) ?_; refine Ad ?_)) | ((fail_if_success (with_reducible refine Ac ?_)); first | go_step | go_step3 | rw [Exit.noGoto_normal] | rw [Exit.noGoto_ret] | rw [Exit.noGoto_exit]))
      go_ret
      exact ⟨rfl, hBW.trans (hS.below.mono hBW.size)⟩
theorem redoReturns_any (key : List UInt8) (n more : Int) (hnr : -9223372036854775808 ≤ n ∧ n ≤ 9223372036854775807) (_ : -9223372036854775808 ≤ more ∧ more ≤ 9223372036854775807) (l : List Rw) (kv v : Value) (w0 : World) (hkv : BytesAt w0 kv key) (hv : RwAt w0 v l) :
    Calls Try.prog 6 #[.agg #[kv, .int .i64 n, v, .int .i64 more]] w0 fun e w' => e = .returned (.bool true) ∧ Below w0.heap.size w0 w' := by
  have hS := St.start w0
  have ha := fun w h1 h2 => rdBack_any key n more hnr l kv v w h1 h2
  obtain ⟨p1, c1, rfl, _⟩ := hkv.slice
  obtain ⟨vs, hvs, p, c, rfl, hc, hp0, hcell⟩ := id hv
  go_enter Try.func6, Try.ntmps6
  repeat' (first | ((with_reducible refine Ac ?_); first | ((first | refine Ai Aa ?_ | refine Al Aa ?_ | refine Af Aa ?_ | refine Av Aa Ab hS ?_ | refine Ba Aa Ab hS ?_ | refine Ag Aa ?_ | refine Ae Aa ?_ | refine Be Aa ?_ | refine g_cap Aa ?_ | refine Bl Aa ?_ | refine Bd Aa ?_ | refine Cj Aa ?_ | refine Ca Aa ?_ | refine Cz Aa ?_ | refine Cq Aa ?_ | refine Ak Aa ?_ | refine Aj Aa ?_ | refine Aw Aa (fun hc => ?_) (fun hc => ?_) | refine Cg Aa ?_ | refine Bz Aa ?_ | refine Ck Aa ?_ | refine Cd Aa ?_ | refine Az Aa ?_ | refine g_field1 Aa ?_ | refine g_fieldR Aa ?_ | refine Bx Aa ?_ | refine Bu Aa ?_ | refine Ax Aa ?_ | refine Dj Aa ?_ | refine Bq Aa ?_ | refine Bk Aa ?_ | refine Bw Aa ?_ | refine Bh Aa ?_ | refine Bc Aa ?_ | refine Au Aa ?_ | refine g_nilCheck Aa ?_ | refine Cp Aa ?_ | refine Ar Aa ?_) <;> refine Ad ?_) | ((first | refine Ay Aa Ab hS ?_ | refine Cu Aa Ab hS ?_ | refine Ao Aa Ab hS ?_ | refine As Aa Ab hS ?_ | refine g_make Aa Ab hS ?_); clear hS; intro b w hS; refine Ad ?_) | ((first | refine Br Aa Ab hS ?_ | refine Ap Aa Ab hS ?_ | refine Aq Aa Ab hS ?_); clear hS; intro w hS; refine Ad ?_) | (refine Ce Aa Ab hS (ha _ (hkv.below hS.below) (hv.below hS.below)) ?_; clear hS; intro w hS; refine Ad ?_)) | ((fail_if_success (with_reducible refine Ac ?_)); first | go_step | go_step3 | rw [Exit.noGoto_normal] | rw [Exit.noGoto_ret] | rw [Exit.noGoto_exit]))
  go_ret
  exact ⟨rfl, hS.below⟩
end Go.Proofs.Ytcjncidahjneaaa

namespace Go.Proofs.Ytcjncidahjneaaa
open Go.ChangeShapes Go.WideShapes Go.ChangeAt Go.RowKit

theorem Try.own : ownKnob Try.prog.godebug = none := by kernel_rfl
theorem Try.laidOut : laidOutB Try.prog = true := by kernel_rfl

set_option maxRecDepth 100000 in
theorem redoReturns_lifted (os : Os) (started : os.Started) (H : Type) (enc : TypeId × Value → H) :
    ReturnsInHanded {} Try.checked os 6 .any (Rows.redoReturnsSpec.pre6 enc Try.prog Try.f6 Rows.redoReturnsRow.domain false) (Rows.redoReturnsSpec.post enc Try.prog Try.f6 false true false false) := by
  refine law_lift (C := Try.checked) Try.own started (by kernel_rfl) Try.func6
    (ChangeSpec.witness6 (enc := enc) (C := Try.checked) false ⟨#[], #[.agg #[.slice none 0 0, .int .i64 0, .slice none 0 0, .int .i64 0]], []⟩ 8 (by kernel_rfl) (by kernel_rfl) (by kernel_rfl) (by kernel_rfl))
    rfl (by kernel_rfl) Try.underlying4 (fun ds h => by match ds, h with | [a], _ => exact ⟨rfl, rfl, rfl⟩) Try.laidOut (by kernel_rfl) ?_
  intro W base args ds p hval0 hA0 hlt hsz0
  have hval : ∀ (j : Nat) t v, Try.f6.params[j]? = some t → args[j]? = some v → Value.okWide Try.prog W .any base t v := hval0
  have hA : DataW.TrodAll enc Try.prog W 0 (fun _ => true) true Try.f6.params.toList args.toList ds p := hA0
  have hsz : (DataW.weightsEach Try.prog Try.f6.params.toList ds).all (· ≤ reachBytes) = true := hsz0
  rw [Try.params6] at hA hval hsz
  obtain ⟨v0, d0, rfl, rfl, h0⟩ := trodAll_one hA

  obtain ⟨kv0, rv0, key0, n0, m0, l0, A0, hn0, hm0, B0, rfl⟩ := open_entry (hval 0 _ v0 rfl rfl) h0
  exact redoReturns_any key0 n0 m0 hn0 hm0 l0 kv0 rv0 W A0 B0

theorem redoReturns_holds : Rows.RedoReturnsSaid :=
  OpenClaim.holds_of_wide 6 Try.f6 rfl rfl rfl rfl rfl rfl rfl ⟨rfl, rfl, rfl, rfl, rfl⟩ rfl rfl rfl rfl rfl (by kernel_rfl) Try.func6 (by kernel_rfl)
    (of_decide_eq_true (by kernel_rfl)) (by unfold Func.isWrapper; rw [if_neg (by decide +kernel)]; exact ⟨rfl, rfl⟩)
    (fun os started H enc _ => redoReturns_lifted os started H enc)

end Go.Proofs.Ytcjncidahjneaaa
