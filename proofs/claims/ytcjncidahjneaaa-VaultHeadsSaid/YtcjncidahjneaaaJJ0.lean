/-
  Laws that the claims of this seat use, of several texts in one: Hd2, Hd4, Hd5. No condition of their own.
-/
import Derived.Test.YtcjncidahjneaaaJI0

namespace Go.Proofs.Ytcjncidahjneaaa
open Go.ChangeShapes Go.WideShapes Go.ChangeAt Go.RowKit
attribute [local irreducible] wpList wpListIn Oper.quietAt wpM
instance instHd2_1 : AtT Try.prog 30 1 ((zs 128).map bv) := ⟨by kernel_rfl⟩
attribute [local irreducible] tagL
theorem bvs_set_at {A : List UInt8} {x y : UInt8} {R : List UInt8} {i : Nat} (h : A.length = i) : (bvs (A ++ y :: R)).setIfInBounds i (.int .u8 (x.toNat : Int)) = bvs ((A ++ [x]) ++ R) := by
  subst h
  unfold bvs
  rw [List.setIfInBounds_toArray, List.map_append, List.set_append_right _ _ (by rw [List.length_map]; exact Nat.le_refl _), List.length_map, Nat.sub_self]
  simp [bv]
set_option maxRecDepth 100000 in
set_option maxHeartbeats 2000000 in
theorem refHead_bad (n : Int) (hn : n < 0) (B : List UInt8) (hB : B.length = 88) (kv : Value) (w0 : World) :
    Calls Try.prog 11 #[kv, .agg (hdV n B)] w0 fun e w' => e = .returned (.tuple #[.agg (bvs (zs 128)), .bool false]) ∧ Below w0.heap.size w0 w' := by
  have hS := St.start w0
  have s1 : csz (hdV n B) = 89 := by rw [hdV_size, hB]
  have s2 : csz (bvs (zs 128)) = 128 := by rw [Cg, zs_len]
  go_enter Try.func11, Try.ntmps11
  repeat' (first | ((with_reducible refine Ad ?_); first | ((first | refine Bn Aa ?_ | refine Bq Aa ?_ | refine Aw Aa ?_ | refine Bi Aa Ab hS ?_ | refine Bg Aa Ab hS ?_ | refine Ag Aa ?_ | refine Af Aa ?_ | refine Cc Aa ?_ | refine Cb Aa ?_ | refine Ao Aa ?_ | refine Bz Aa ?_ | refine Bx Aa ?_ | refine Bu Aa ?_ | refine Bv Aa ?_ | refine Ca Aa ?_ | refine Bl Aa ?_ | refine Bh Aa ?_ | refine Bw Aa (fun hc => ?_) (fun hc => ?_) | refine Bb Aa ?_ | refine Ap Aa ?_ | refine Bc Aa ?_ | refine Aq Aa ?_ | refine Ah Aa ?_ | refine Av Aa ?_ | refine Ay Aa ?_ | refine Aj Aa ?_ | refine Al Aa ?_ | refine Ae Aa ?_ | refine Ai Aa ?_ | refine Bo Aa ?_ | refine Br Aa ?_ | refine Bt Aa ?_ | refine Bk Aa ?_ | refine Ax Aa ?_ | refine Ak Aa ?_ | refine Am Aa ?_ | refine Be Aa ?_ | refine Bd Aa ?_) <;> refine Ac ?_) | ((first | refine Bf Aa Ab hS ?_ | refine Bs Aa Ab hS ?_ | refine Ba Aa Ab hS ?_ | refine Bj Aa Ab hS ?_ | refine Bp Aa Ab hS ?_); clear hS; intro b w hS; refine Ac ?_) | ((first | refine Az Aa Ab hS ?_ | refine Ar Aa Ab hS ?_ | refine Au Aa Ab hS ?_); clear hS; intro w hS; refine Ac ?_)) | ((fail_if_success (with_reducible refine Ad ?_)); first | go_step | go_step3 | rw [Exit.noGoto_normal] | rw [Exit.noGoto_ret] | rw [Exit.noGoto_exit]))
  exact post_cell_tmp (n := 128) Try.results11 (by kernel_rfl) (.inl rfl) _ _ _ _ rfl rfl (hS.blk 0 rfl) (by rw [← csz_is]; exact s2) ⟨rfl, hS.below⟩
set_option maxRecDepth 100000 in
set_option maxHeartbeats 4000000 in
theorem refHead_good (key : List UInt8) (hk : key.length ≤ 1000000) (N : Nat) (hN : N ≤ 9223372036854775807) (B : List UInt8) (hB : B.length = 88) (kv : Value) (w0 : World) (hkv : BytesAt w0 kv key) :
    Calls Try.prog 11 #[kv, .agg (hdV (N : Int) B)] w0 fun e w' => e = .returned (.tuple #[.agg (bvs (headC key N B)), .bool true]) ∧ Below w0.heap.size w0 w' := by
  have hS := St.start w0
  have s1 : csz (hdV (N : Int) B) = 89 := by rw [hdV_size, hB]
  have s2 : csz (bvs (zs 128)) = 128 := by rw [Cg, zs_len]
  have hu : u64W (N : Int) = N := by unfold u64W; omega
  have hnum := fun w => num_8 (N : Int) w
  rw [hu] at hnum
  have h8 : (beB N 8).length = 8 := beB_len _ _
  have hTl := headT_len N hB
  have hT : headT N B = beB N 8 ++ B := rfl
  have hC : headC key N B = headT N B ++ tagL key (headT N B) := rfl
  have hgl := tagL_len key (headT N B)
  have hYl := headC_len key N hB
  obtain ⟨E, hE⟩ : ∃ E, beB N 8 = E := ⟨_, rfl⟩
  rw [hE] at h8 hT hnum
  go_enter Try.func11, Try.ntmps11
  repeat' (first | ((with_reducible refine Ad ?_); first | ((first | refine Bn Aa ?_ | refine Bq Aa ?_ | refine Aw Aa ?_ | refine Bi Aa Ab hS ?_ | refine Bg Aa Ab hS ?_ | refine Ag Aa ?_ | refine Af Aa ?_ | refine Cc Aa ?_ | refine Cb Aa ?_ | refine Ao Aa ?_ | refine Bz Aa ?_ | refine Bx Aa ?_ | refine Bu Aa ?_ | refine Bv Aa ?_ | refine Ca Aa ?_ | refine Bl Aa ?_ | refine Bh Aa ?_ | refine Bw Aa (fun hc => ?_) (fun hc => ?_) | refine Bb Aa ?_ | refine Ap Aa ?_ | refine Bc Aa ?_ | refine Aq Aa ?_ | refine Ah Aa ?_ | refine Av Aa ?_ | refine Ay Aa ?_ | refine Aj Aa ?_ | refine Al Aa ?_ | refine Ae Aa ?_ | refine Ai Aa ?_ | refine Bo Aa ?_ | refine Br Aa ?_ | refine Bt Aa ?_ | refine Bk Aa ?_ | refine Ax Aa ?_ | refine Ak Aa ?_ | refine Am Aa ?_ | refine Be Aa ?_ | refine Bd Aa ?_) <;> refine Ac ?_) | ((first | refine Bf Aa Ab hS ?_ | refine Bs Aa Ab hS ?_ | refine Ba Aa Ab hS ?_ | refine Bj Aa Ab hS ?_ | refine Bp Aa Ab hS ?_); clear hS; intro b w hS; refine Ac ?_) | ((first | refine Az Aa Ab hS ?_ | refine Ar Aa Ab hS ?_ | refine Au Aa Ab hS ?_); clear hS; intro w hS; refine Ac ?_)) | ((fail_if_success (with_reducible refine Ad ?_)); first | go_step | go_step3 | rw [Exit.noGoto_normal] | rw [Exit.noGoto_ret] | rw [Exit.noGoto_exit]))
  refine s_call Aa (by rfl) (by rfl) (by rfl) (by rfl) (by rfl) (by infer_instance) (hnum _) ?_
  rintro e w1 ⟨sv, rfl, hR, hB2⟩
  refine ⟨_, rfl, ?_⟩
  refine Ac ?_
  rcases hR with ⟨_, hbad⟩ | ⟨g, c, sp, rfl, k1, k2, k3, k4, k5⟩
  · rw [hbad] at h8; cases h8
  replace hS := Ab.new hS hB2 k4 k5
  repeat' (first | ((with_reducible refine Ad ?_); first | ((first | refine Bn Aa ?_ | refine Bq Aa ?_ | refine Aw Aa ?_ | refine Bi Aa Ab hS ?_ | refine Bg Aa Ab hS ?_ | refine Ag Aa ?_ | refine Af Aa ?_ | refine Cc Aa ?_ | refine Cb Aa ?_ | refine Ao Aa ?_ | refine Bz Aa ?_ | refine Bx Aa ?_ | refine Bu Aa ?_ | refine Bv Aa ?_ | refine Ca Aa ?_ | refine Bl Aa ?_ | refine Bh Aa ?_ | refine Bw Aa (fun hc => ?_) (fun hc => ?_) | refine Bb Aa ?_ | refine Ap Aa ?_ | refine Bc Aa ?_ | refine Aq Aa ?_ | refine Ah Aa ?_ | refine Av Aa ?_ | refine Ay Aa ?_ | refine Aj Aa ?_ | refine Al Aa ?_ | refine Ae Aa ?_ | refine Ai Aa ?_ | refine Bo Aa ?_ | refine Br Aa ?_ | refine Bt Aa ?_ | refine Bk Aa ?_ | refine Ax Aa ?_ | refine Ak Aa ?_ | refine Am Aa ?_ | refine Be Aa ?_ | refine Bd Aa ?_) <;> refine Ac ?_) | ((first | refine Bf Aa Ab hS ?_ | refine Bs Aa Ab hS ?_ | refine Ba Aa Ab hS ?_ | refine Bj Aa Ab hS ?_ | refine Bp Aa Ab hS ?_); clear hS; intro b w hS; refine Ac ?_) | ((first | refine Az Aa Ab hS ?_ | refine Ar Aa Ab hS ?_ | refine Au Aa Ab hS ?_); clear hS; intro w hS; refine Ac ?_)) | ((fail_if_success (with_reducible refine Ad ?_)); first | go_step | go_step3 | rw [Exit.noGoto_normal] | rw [Exit.noGoto_ret] | rw [Exit.noGoto_exit]))
  rename_i bH y1 KK hKK
  obtain ⟨bR, hbR⟩ : ∃ x, x = b := ⟨_, rfl⟩
  rw [← hbR] at hS ⊢
  clear hbR
  go_loopw [6, 8] (fun u6 u8 wr => ∃ (k g c : Nat) (sp : List Value), k ≤ 2 ∧ u8 = .int .i64 (k : Int) ∧ u6 = .slice (some ⟨g, 0, none⟩) (8 + 32 * k) c ∧ 8 + 32 * k ≤ c ∧ c ≤ maxLen ∧ sp.length = c - (8 + 32 * k) ∧ St w0 wr [(g, ((E ++ B.take (32 * k)).map bv ++ sp).toArray, 5), (bR, bvs (zs 128), 30), (bH, hdV (N : Int) B, 28)]) (fun _ u8 _ => 2 - (intOf u8).toNat)
  case atStart => exact ⟨0, g, c, sp, by omega, rfl, by rw [h8], by omega, k2, by omega, by rw [Nat.mul_zero, List.take_zero, List.append_nil]; exact hS⟩
  case round =>
    clear hS k1 k2 k3 k4 k5 hB2
    obtain ⟨k, g, c, sp, hk2, rfl, rfl, k1, k2, k3, hS⟩ := hrel
    have lk : (B.take (32 * k)).length = 32 * k := by rw [List.length_take]; omega
    have lE : (E ++ B.take (32 * k)).length = 8 + 32 * k := by rw [List.length_append, h8, lk]
    have k2' := k2
    unfold maxLen at k2'
    by_cases hlt : k < 2
    · obtain ⟨r, hr⟩ : ∃ r, (B.drop (32 * k)).take 32 = r := ⟨_, rfl⟩
      have lr : r.length = 32 := by rw [← hr, List.length_take, List.length_drop]; omega
      have e1 : (E ++ B.take (32 * k)) ++ r = E ++ B.take (32 * (k + 1)) := by rw [← hr, show 32 * (k + 1) = 32 * k + 32 by omega, List.take_add, List.append_assoc]
      have hbr := hd_bytes (hS.blk 2 rfl) (32 * k) 32 32 (by omega) (by omega)
      rw [hr, Nat.mul_comm 32 k] at hbr
      repeat' (first | ((with_reducible refine Ad ?_); first | ((first | refine Bn Aa ?_ | refine Bq Aa ?_ | refine Aw Aa ?_ | refine Bi Aa Ab hS ?_ | refine Bg Aa Ab hS ?_ | refine Ag Aa ?_ | refine Af Aa ?_ | refine Cc Aa ?_ | refine Cb Aa ?_ | refine Ao Aa ?_ | refine Bz Aa ?_ | refine Bx Aa ?_ | refine Bu Aa ?_ | refine Bv Aa ?_ | refine Ca Aa ?_ | refine Bl Aa ?_ | refine Bh Aa ?_ | refine Bw Aa (fun hc => ?_) (fun hc => ?_) | refine Bb Aa ?_ | refine Ap Aa ?_ | refine Bc Aa ?_ | refine Aq Aa ?_ | refine Ah Aa ?_ | refine Av Aa ?_ | refine Ay Aa ?_ | refine Aj Aa ?_ | refine Al Aa ?_ | refine Ae Aa ?_ | refine Ai Aa ?_ | refine Bo Aa ?_ | refine Br Aa ?_ | refine Bt Aa ?_ | refine Bk Aa ?_ | refine Ax Aa ?_ | refine Ak Aa ?_ | refine Am Aa ?_ | refine Be Aa ?_ | refine Bd Aa ?_) <;> refine Ac ?_) | ((first | refine Bf Aa Ab hS ?_ | refine Bs Aa Ab hS ?_ | refine Ba Aa Ab hS ?_ | refine Bj Aa Ab hS ?_ | refine Bp Aa Ab hS ?_); clear hS; intro b w hS; refine Ac ?_) | ((first | refine Az Aa Ab hS ?_ | refine Ar Aa Ab hS ?_ | refine Au Aa Ab hS ?_); clear hS; intro w hS; refine Ac ?_)) | ((fail_if_success (with_reducible refine Ad ?_)); first | go_step | go_step3 | rw [Exit.noGoto_normal] | rw [Exit.noGoto_ret] | rw [Exit.noGoto_exit]))
      refine s_appX Aa Ab hS (by rfl) (by rfl) (by rfl) (by rfl) (by infer_instance) (by exact at_ 0 rfl) (l := E ++ B.take (32 * k)) (spare := sp) (by rfl) lE k1 k3 hbr (by unfold maxLen; omega) (nm := 8 + 32 * (k + 1)) (by omega) ?_
      clear hS
      intro b1 d1 sp1 w5 q1 q2 q3 hS
      rw [e1] at hS
      refine Ac ?_
      repeat' (first | ((with_reducible refine Ad ?_); first | ((first | refine Bn Aa ?_ | refine Bq Aa ?_ | refine Aw Aa ?_ | refine Bi Aa Ab hS ?_ | refine Bg Aa Ab hS ?_ | refine Ag Aa ?_ | refine Af Aa ?_ | refine Cc Aa ?_ | refine Cb Aa ?_ | refine Ao Aa ?_ | refine Bz Aa ?_ | refine Bx Aa ?_ | refine Bu Aa ?_ | refine Bv Aa ?_ | refine Ca Aa ?_ | refine Bl Aa ?_ | refine Bh Aa ?_ | refine Bw Aa (fun hc => ?_) (fun hc => ?_) | refine Bb Aa ?_ | refine Ap Aa ?_ | refine Bc Aa ?_ | refine Aq Aa ?_ | refine Ah Aa ?_ | refine Av Aa ?_ | refine Ay Aa ?_ | refine Aj Aa ?_ | refine Al Aa ?_ | refine Ae Aa ?_ | refine Ai Aa ?_ | refine Bo Aa ?_ | refine Br Aa ?_ | refine Bt Aa ?_ | refine Bk Aa ?_ | refine Ax Aa ?_ | refine Ak Aa ?_ | refine Am Aa ?_ | refine Be Aa ?_ | refine Bd Aa ?_) <;> refine Ac ?_) | ((first | refine Bf Aa Ab hS ?_ | refine Bs Aa Ab hS ?_ | refine Ba Aa Ab hS ?_ | refine Bj Aa Ab hS ?_ | refine Bp Aa Ab hS ?_); clear hS; intro b w hS; refine Ac ?_) | ((first | refine Az Aa Ab hS ?_ | refine Ar Aa Ab hS ?_ | refine Au Aa Ab hS ?_); clear hS; intro w hS; refine Ac ?_)) | ((fail_if_success (with_reducible refine Ad ?_)); first | go_step | go_step3 | rw [Exit.noGoto_normal] | rw [Exit.noGoto_ret] | rw [Exit.noGoto_exit]))
      go_roundw
      case rel => exact ⟨k + 1, b1, d1, sp1, by omega, by push_cast; rfl, rfl, q1, q2, q3, hS⟩
      case measure => first | (simp [intOf]; done) | (simp [intOf]; omega)
    · obtain rfl : k = 2 := by omega
      have hbr := hd_bytes (hS.blk 2 rfl) 64 24 24 (by omega) (by omega)
      have e1 : (E ++ B.take (32 * 2)) ++ (B.drop 64).take 24 = E ++ B := by
        rw [List.take_of_length_le (l := B.drop 64) (by rw [List.length_drop]; omega), List.append_assoc, List.take_append_drop]
      have lr : ((B.drop 64).take 24).length = 24 := by rw [List.length_take, List.length_drop]; omega
      repeat' (first | ((with_reducible refine Ad ?_); first | ((first | refine Bn Aa ?_ | refine Bq Aa ?_ | refine Aw Aa ?_ | refine Bi Aa Ab hS ?_ | refine Bg Aa Ab hS ?_ | refine Ag Aa ?_ | refine Af Aa ?_ | refine Cc Aa ?_ | refine Cb Aa ?_ | refine Ao Aa ?_ | refine Bz Aa ?_ | refine Bx Aa ?_ | refine Bu Aa ?_ | refine Bv Aa ?_ | refine Ca Aa ?_ | refine Bl Aa ?_ | refine Bh Aa ?_ | refine Bw Aa (fun hc => ?_) (fun hc => ?_) | refine Bb Aa ?_ | refine Ap Aa ?_ | refine Bc Aa ?_ | refine Aq Aa ?_ | refine Ah Aa ?_ | refine Av Aa ?_ | refine Ay Aa ?_ | refine Aj Aa ?_ | refine Al Aa ?_ | refine Ae Aa ?_ | refine Ai Aa ?_ | refine Bo Aa ?_ | refine Br Aa ?_ | refine Bt Aa ?_ | refine Bk Aa ?_ | refine Ax Aa ?_ | refine Ak Aa ?_ | refine Am Aa ?_ | refine Be Aa ?_ | refine Bd Aa ?_) <;> refine Ac ?_) | ((first | refine Bf Aa Ab hS ?_ | refine Bs Aa Ab hS ?_ | refine Ba Aa Ab hS ?_ | refine Bj Aa Ab hS ?_ | refine Bp Aa Ab hS ?_); clear hS; intro b w hS; refine Ac ?_) | ((first | refine Az Aa Ab hS ?_ | refine Ar Aa Ab hS ?_ | refine Au Aa Ab hS ?_); clear hS; intro w hS; refine Ac ?_)) | ((fail_if_success (with_reducible refine Ad ?_)); first | go_step | go_step3 | rw [Exit.noGoto_normal] | rw [Exit.noGoto_ret] | rw [Exit.noGoto_exit]))
      refine s_appX Aa Ab hS (by rfl) (by rfl) (by rfl) (by rfl) (by infer_instance) (by exact at_ 0 rfl) (l := E ++ B.take (32 * 2)) (spare := sp) (by rfl) lE k1 k3 hbr (by unfold maxLen; omega) (nm := 96) (by omega) ?_
      clear hS
      intro b1 d1 sp1 w5 q1 q2 q3 hS
      rw [e1, ← hT] at hS
      refine Ac ?_
      obtain ⟨T, hTT⟩ : ∃ T, headT N B = T := ⟨_, rfl⟩
      rw [hTT] at hS hTl hgl hC
      have htg := refTag_any key T hk (by omega) kv _ _ (hkv.below hS.below) (bytesAt_mid (pre := []) (off := 0) (hS.blk 0 rfl) rfl rfl hTl q1)
      obtain ⟨G, hG⟩ : ∃ G, tagL key T = G := ⟨_, rfl⟩
      rw [hG] at htg hgl hC
      have s7 : csz (bvs G) = 32 := by rw [Cg, hgl]
      have s9 : csz (bvs (zs 32)) = 32 := by rw [Cg, zs_len]
      have hTG : (T ++ G).length = 128 := by rw [List.length_append, hTl, hgl]
      repeat' (first | ((with_reducible refine Ad ?_); first | ((first | refine Bn Aa ?_ | refine Bq Aa ?_ | refine Aw Aa ?_ | refine Bi Aa Ab hS ?_ | refine Bg Aa Ab hS ?_ | refine Ag Aa ?_ | refine Af Aa ?_ | refine Cc Aa ?_ | refine Cb Aa ?_ | refine Ao Aa ?_ | refine Bz Aa ?_ | refine Bx Aa ?_ | refine Bu Aa ?_ | refine Bv Aa ?_ | refine Ca Aa ?_ | refine Bl Aa ?_ | refine Bh Aa ?_ | refine Bw Aa (fun hc => ?_) (fun hc => ?_) | refine Bb Aa ?_ | refine Ap Aa ?_ | refine Bc Aa ?_ | refine Aq Aa ?_ | refine Ah Aa ?_ | refine Av Aa ?_ | refine Ay Aa ?_ | refine Aj Aa ?_ | refine Al Aa ?_ | refine Ae Aa ?_ | refine Ai Aa ?_ | refine Bo Aa ?_ | refine Br Aa ?_ | refine Bt Aa ?_ | refine Bk Aa ?_ | refine Ax Aa ?_ | refine Ak Aa ?_ | refine Am Aa ?_ | refine Be Aa ?_ | refine Bd Aa ?_) <;> refine Ac ?_) | ((first | refine Bf Aa Ab hS ?_ | refine Bs Aa Ab hS ?_ | refine Ba Aa Ab hS ?_ | refine Bj Aa Ab hS ?_ | refine Bp Aa Ab hS ?_); clear hS; intro b w hS; refine Ac ?_) | ((first | refine Az Aa Ab hS ?_ | refine Ar Aa Ab hS ?_ | refine Au Aa Ab hS ?_); clear hS; intro w hS; refine Ac ?_) | (refine Cv Aa Ab hS (htg) ?_; clear hS; intro w hS; refine Ac ?_)) | ((fail_if_success (with_reducible refine Ad ?_)); first | go_step | go_step3 | rw [Exit.noGoto_normal] | rw [Exit.noGoto_ret] | rw [Exit.noGoto_exit]))
      refine s_appX Aa Ab hS (by rfl) (by rfl) (by rfl) (by rfl) (by infer_instance) (by exact at_ 1 rfl) (l := T) (spare := sp1) (by rfl) hTl q1 q3 (bytesAt_whole (hS.blk 0 rfl) hgl) (by unfold maxLen at q2 ⊢; omega) (nm := 128) (by omega) ?_
      clear hS
      intro b2 d2 sp2 w6 r1 r2 r3 hS
      refine Ac ?_
      obtain ⟨Y, hY⟩ : ∃ Y, T ++ G = Y := ⟨_, rfl⟩
      rw [hY] at hS hTG hC
      have hg : ∀ i, i < 128 → ((Y.map bv ++ sp2).toArray)[i]? = some (.int .u8 ((Y.getD i 0).toNat : Int)) := fun i hi => by
        rw [List.getElem?_toArray, List.getElem?_append_left (by rw [List.length_map]; omega), List.getElem?_map, List.getElem?_eq_getElem (by omega), List.getD_eq_getElem?_getD, List.getElem?_eq_getElem (by omega)]
        rfl
      repeat' (first | ((with_reducible refine Ad ?_); first | ((first | refine Bn Aa ?_ | refine Bq Aa ?_ | refine Aw Aa ?_ | refine Bi Aa Ab hS ?_ | refine Bg Aa Ab hS ?_ | refine Ag Aa ?_ | refine Af Aa ?_ | refine Cc Aa ?_ | refine Cb Aa ?_ | refine Ao Aa ?_ | refine Bz Aa ?_ | refine Bx Aa ?_ | refine Bu Aa ?_ | refine Bv Aa ?_ | refine Ca Aa ?_ | refine Bl Aa ?_ | refine Bh Aa ?_ | refine Bw Aa (fun hc => ?_) (fun hc => ?_) | refine Bb Aa ?_ | refine Ap Aa ?_ | refine Bc Aa ?_ | refine Aq Aa ?_ | refine Ah Aa ?_ | refine Av Aa ?_ | refine Ay Aa ?_ | refine Aj Aa ?_ | refine Al Aa ?_ | refine Ae Aa ?_ | refine Ai Aa ?_ | refine Bo Aa ?_ | refine Br Aa ?_ | refine Bt Aa ?_ | refine Bk Aa ?_ | refine Ax Aa ?_ | refine Ak Aa ?_ | refine Am Aa ?_ | refine Be Aa ?_ | refine Bd Aa ?_) <;> refine Ac ?_) | ((first | refine Bf Aa Ab hS ?_ | refine Bs Aa Ab hS ?_ | refine Ba Aa Ab hS ?_ | refine Bj Aa Ab hS ?_ | refine Bp Aa Ab hS ?_); clear hS; intro b w hS; refine Ac ?_) | ((first | refine Az Aa Ab hS ?_ | refine Ar Aa Ab hS ?_ | refine Au Aa Ab hS ?_); clear hS; intro w hS; refine Ac ?_)) | ((fail_if_success (with_reducible refine Ad ?_)); first | go_step | go_step3 | rw [Exit.noGoto_normal] | rw [Exit.noGoto_ret] | rw [Exit.noGoto_exit]))
      go_loopw [11] (fun u11 wr => ∃ i : Nat, i ≤ 128 ∧ u11 = .int .i64 (i : Int) ∧ St w0 wr [(b, bvs (Y.take i ++ zs (128 - i)), 30), (b2, (Y.map bv ++ sp2).toArray, 5), (bR, bvs (zs 128), 30)]) (fun u11 _ => 128 - (intOf u11).toNat)
      case atStart => exact ⟨0, by omega, rfl, (hS.erase 2).erase 3⟩
      case round =>
        clear hS
        obtain ⟨i, hi, rfl, hS⟩ := hrel
        have s5 : csz (bvs (Y.take i ++ zs (128 - i))) = 128 := by rw [Cg, List.length_append, List.length_take, zs_len]; omega
        by_cases hlt : i < 128
        · have hset := bvs_fill (l := Y) (i := i) (n := 128) hlt hTG
          have hc := hg i hlt
          obtain ⟨x, hx⟩ : ∃ x, Y.getD i 0 = x := ⟨_, rfl⟩
          rw [hx] at hc hset
          obtain ⟨X, hX⟩ : ∃ X, bvs (Y.take i ++ zs (128 - i)) = X := ⟨_, rfl⟩
          rw [hX] at hS s5 hset
          repeat' (first | ((with_reducible refine Ad ?_); first | ((first | refine Bn Aa ?_ | refine Bq Aa ?_ | refine Aw Aa ?_ | refine Bi Aa Ab hS ?_ (hv := by first | rfl | exact Ch | (rw [Array.getElem?_toList]; exact hc)) | refine Bg Aa Ab hS ?_ (hv := by first | exact Co _ _ (by (try simp only [Cl, Cg, Ck, List.length_append, List.length_set, zs_len, List.length_take, List.length_drop, List.length_cons, List.length_nil]); first | done | rfl | omega) | (exact hc) | rfl) | refine Ag Aa ?_ | refine Af Aa ?_ | refine Cc Aa ?_ | refine Cb Aa ?_ | refine Ao Aa ?_ | refine Bz Aa ?_ | refine Bx Aa ?_ | refine Bu Aa ?_ | refine Bv Aa ?_ | refine Ca Aa ?_ | refine Bl Aa ?_ | refine Bh Aa ?_ | refine Bw Aa (fun hc => ?_) (fun hc => ?_) | refine Bb Aa ?_ | refine Ap Aa ?_ | refine Bc Aa ?_ | refine Aq Aa ?_ | refine Ah Aa ?_ | refine Av Aa ?_ (hv' := by first | rfl | exact Ch | (rw [Array.getElem?_toList]; exact hc)) | refine Ay Aa ?_ | refine Aj Aa ?_ | refine Al Aa ?_ | refine Ae Aa ?_ | refine Ai Aa ?_ | refine Bo Aa ?_ | refine Br Aa ?_ | refine Bt Aa ?_ | refine Bk Aa ?_ | refine Ax Aa ?_ | refine Ak Aa ?_ | refine Am Aa ?_ | refine Be Aa ?_ | refine Bd Aa ?_) <;> refine Ac ?_) | ((first | refine Bf Aa Ab hS ?_ | refine Bs Aa Ab hS ?_ | refine Ba Aa Ab hS ?_ | refine Bj Aa Ab hS ?_ | refine Bp Aa Ab hS ?_); clear hS; intro b w hS; refine Ac ?_) | ((first | refine Az Aa Ab hS ?_ | refine Ar Aa Ab hS ?_ | refine Au Aa Ab hS ?_); clear hS; intro w hS; refine Ac ?_)) | ((fail_if_success (with_reducible refine Ad ?_)); first | go_step | go_step3 | rw [Exit.noGoto_normal] | rw [Exit.noGoto_ret] | rw [Exit.noGoto_exit]))
          rw [hset] at hS
          go_roundw
          case rel => exact ⟨i + 1, by omega, by push_cast; rfl, hS⟩
          case measure => first | (simp [intOf]; done) | (simp [intOf]; omega)
        · obtain rfl : i = 128 := by omega
          replace hS : St w0 wr [(b, bvs Y, 30), (b2, (Y.map bv ++ sp2).toArray, 5), (bR, bvs (zs 128), 30)] := by
            have e : Y.take 128 ++ zs (128 - 128) = Y := by rw [Nat.sub_self, zs0, List.append_nil, List.take_of_length_le (by omega)]
            rw [e] at hS; exact hS
          have s8 : csz (bvs Y) = 128 := by rw [Cg, hTG]
          repeat' (first | ((with_reducible refine Ad ?_); first | ((first | refine Bn Aa ?_ | refine Bq Aa ?_ | refine Aw Aa ?_ | refine Bi Aa Ab hS ?_ | refine Bg Aa Ab hS ?_ | refine Ag Aa ?_ | refine Af Aa ?_ | refine Cc Aa ?_ | refine Cb Aa ?_ | refine Ao Aa ?_ | refine Bz Aa ?_ | refine Bx Aa ?_ | refine Bu Aa ?_ | refine Bv Aa ?_ | refine Ca Aa ?_ | refine Bl Aa ?_ | refine Bh Aa ?_ | refine Bw Aa (fun hc => ?_) (fun hc => ?_) | refine Bb Aa ?_ | refine Ap Aa ?_ | refine Bc Aa ?_ | refine Aq Aa ?_ | refine Ah Aa ?_ | refine Av Aa ?_ | refine Ay Aa ?_ | refine Aj Aa ?_ | refine Al Aa ?_ | refine Ae Aa ?_ | refine Ai Aa ?_ | refine Bo Aa ?_ | refine Br Aa ?_ | refine Bt Aa ?_ | refine Bk Aa ?_ | refine Ax Aa ?_ | refine Ak Aa ?_ | refine Am Aa ?_ | refine Be Aa ?_ | refine Bd Aa ?_) <;> refine Ac ?_) | ((first | refine Bf Aa Ab hS ?_ | refine Bs Aa Ab hS ?_ | refine Ba Aa Ab hS ?_ | refine Bj Aa Ab hS ?_ | refine Bp Aa Ab hS ?_); clear hS; intro b w hS; refine Ac ?_) | ((first | refine Az Aa Ab hS ?_ | refine Ar Aa Ab hS ?_ | refine Au Aa Ab hS ?_); clear hS; intro w hS; refine Ac ?_)) | ((fail_if_success (with_reducible refine Ad ?_)); first | go_step | go_step3 | rw [Exit.noGoto_normal] | rw [Exit.noGoto_ret] | rw [Exit.noGoto_exit]))
          exact post_cell_tmp (n := 128) Try.results11 (by kernel_rfl) (.inl rfl) _ _ _ _ rfl rfl (hS.blk 2 rfl) (by rw [← csz_is]; exact s8) ⟨by rw [hC]; rfl, hS.below⟩
end Go.Proofs.Ytcjncidahjneaaa

namespace Go.Proofs.Ytcjncidahjneaaa
open Go.ChangeShapes Go.WideShapes Go.ChangeAt Go.RowKit
attribute [local irreducible] wpList wpListIn Oper.quietAt wpM
attribute [local irreducible] tagL
set_option maxRecDepth 100000 in
set_option maxHeartbeats 2000000 in
theorem refTake8_any (C : List UInt8) (hC : C.length = 128) (b n c : Nat) (hn : n = 128) (w0 : World) (hb : blk w0 b = some (.cells (bvs C) 30 (0, 0))) :
    Calls Try.prog 37 #[.slice (some ⟨b, 0, none⟩) n c, .int .i64 8] w0 fun e w' => e = .returned (.tuple #[.int .i64 (cntL C), .bool true]) ∧ Below w0.heap.size w0 w' := by
  have hS := St.start w0
  subst hn
  have l8 : (C.take 8).length = 8 := by rw [List.length_take]; omega
  have hcn : cntL C = wrap64 (beN (C.take 8) : Int) := rfl
  obtain ⟨q, hq⟩ : ∃ q, cntL C = q := ⟨_, rfl⟩
  rw [hq] at hcn ⊢
  have hlt8 : ∀ k, k < 8 → beN (C.take k) < 72057594037927936 := fun k hk => by
    have h1 := beN_lt (C.take k)
    have h2 : 256 ^ (C.take k).length ≤ 256 ^ 7 := Nat.pow_le_pow_right (by omega) (by rw [List.length_take]; omega)
    have h3 : (256 : Nat) ^ 7 = 72057594037927936 := by decide +kernel
    rw [h3] at h2
    exact Nat.lt_of_lt_of_le h1 h2
  go_enter Try.func37, Try.ntmps37
  repeat' (first | ((with_reducible refine Ad ?_); first | ((first | refine Bn Aa ?_ | refine Bq Aa ?_ | refine Aw Aa ?_ | refine Bi Aa Ab hS ?_ | refine Bg Aa Ab hS ?_ | refine Ag Aa ?_ | refine Af Aa ?_ | refine Cc Aa ?_ | refine Cb Aa ?_ | refine Ao Aa ?_ | refine Bz Aa ?_ | refine Bx Aa ?_ | refine Bu Aa ?_ | refine Bv Aa ?_ | refine Ca Aa ?_ | refine Bl Aa ?_ | refine Bh Aa ?_ | refine Bw Aa (fun hc => ?_) (fun hc => ?_) | refine Bb Aa ?_ | refine Ap Aa ?_ | refine Bc Aa ?_ | refine Aq Aa ?_ | refine Ah Aa ?_ | refine Av Aa ?_ | refine Ay Aa ?_ | refine Aj Aa ?_ | refine Al Aa ?_ | refine Ae Aa ?_ | refine Ai Aa ?_ | refine Bo Aa ?_ | refine Br Aa ?_ | refine Bt Aa ?_ | refine Bk Aa ?_ | refine Ax Aa ?_ | refine Ak Aa ?_ | refine Am Aa ?_ | refine Be Aa ?_ | refine Bd Aa ?_) <;> refine Ac ?_) | ((first | refine Bf Aa Ab hS ?_ | refine Bs Aa Ab hS ?_ | refine Ba Aa Ab hS ?_ | refine Bj Aa Ab hS ?_ | refine Bp Aa Ab hS ?_); clear hS; intro b w hS; refine Ac ?_) | ((first | refine Az Aa Ab hS ?_ | refine Ar Aa Ab hS ?_ | refine Au Aa Ab hS ?_); clear hS; intro w hS; refine Ac ?_)) | ((fail_if_success (with_reducible refine Ad ?_)); first | go_step | go_step3 | rw [Exit.noGoto_normal] | rw [Exit.noGoto_ret] | rw [Exit.noGoto_exit]))
  go_loopw [6, 7] (fun u6 u7 wr => ∃ k : Nat, k ≤ 8 ∧ u7 = .int .i64 (k : Int) ∧ u6 = .int .u64 ((beN (C.take k) : Nat) : Int) ∧ St w0 wr []) (fun _ u7 _ => 8 - (intOf u7).toNat)
  case atStart => exact ⟨0, by omega, rfl, by simp [beN_nil], hS⟩
  case round =>
    clear hS
    obtain ⟨k, hk, rfl, rfl, hS⟩ := hrel
    by_cases hlt : k < 8
    · have h1 := hlt8 k hlt
      have hc : (bvs C)[k]? = some (.int .u8 ((C.getD k 0).toNat : Int)) := by
        unfold bvs
        rw [List.getElem?_toArray, List.getElem?_map, List.getElem?_eq_getElem (by omega), List.getD_eq_getElem?_getD, List.getElem?_eq_getElem (by omega)]; rfl
      have h2 := beN_take (l := C) (i := k) (x := C.getD k 0) (by rw [List.getD_eq_getElem?_getD, List.getElem?_eq_getElem (by omega)]; rfl)
      have h3 := (C.getD k 0).toNat_lt
      obtain ⟨y, hy⟩ : ∃ y, beN (C.take k) = y := ⟨_, rfl⟩
      rw [hy] at h1 h2 ⊢
      clear hcn hlt8 hy
      repeat' (first | ((with_reducible refine Ad ?_); first | ((first | refine Bn Aa ?_ | refine Bq Aa ?_ | refine Aw Aa ?_ | refine Bi Aa Ab hS ?_ (hv := by first | rfl | exact Ch | (rw [Array.getElem?_toList]; exact hc)) | refine Cp Aa (by first | exact ((hS).far hb).1) ?_ (hv := by first | rfl | exact Ch | (rw [Array.getElem?_toList]; exact hc)) | refine Bg Aa Ab hS ?_ (hv := by first | exact Co _ _ (by (try simp only [Cl, Cg, Ck, List.length_append, List.length_set, zs_len, List.length_take, List.length_drop, List.length_cons, List.length_nil]); first | done | rfl | omega) | (exact hc) | rfl) | refine Cq Aa (by first | exact ((hS).far hb).1) ?_ (hv := by first | exact Co _ _ (by (try simp only [Cl, Cg, Ck, List.length_append, List.length_set, zs_len, List.length_take, List.length_drop, List.length_cons, List.length_nil]); first | done | rfl | omega) | (exact hc) | rfl) | refine Ag Aa ?_ | refine Af Aa ?_ | refine Cc Aa ?_ | refine Cb Aa ?_ | refine Ao Aa ?_ | refine Bz Aa ?_ | refine Bx Aa ?_ | refine Bu Aa ?_ | refine Bv Aa ?_ | refine Ca Aa ?_ | refine Bl Aa ?_ | refine Bh Aa ?_ | refine Bw Aa (fun hc => ?_) (fun hc => ?_) | refine Bb Aa ?_ | refine Ap Aa ?_ | refine Bc Aa ?_ | refine Aq Aa ?_ | refine Ah Aa ?_ | refine Av Aa ?_ (hv' := by first | rfl | exact Ch | (rw [Array.getElem?_toList]; exact hc)) | refine Ay Aa ?_ | refine Aj Aa ?_ | refine Al Aa ?_ | refine Ae Aa ?_ | refine Ai Aa ?_ | refine Bo Aa ?_ | refine Br Aa ?_ | refine Bt Aa ?_ | refine Bk Aa ?_ | refine Ax Aa ?_ | refine Ak Aa ?_ | refine Am Aa ?_ | refine Be Aa ?_ | refine Bd Aa ?_) <;> refine Ac ?_) | ((first | refine Bf Aa Ab hS ?_ | refine Bs Aa Ab hS ?_ | refine Ba Aa Ab hS ?_ | refine Bj Aa Ab hS ?_ | refine Bp Aa Ab hS ?_); clear hS; intro b w hS; refine Ac ?_) | ((first | refine Az Aa Ab hS ?_ | refine Ar Aa Ab hS ?_ | refine Au Aa Ab hS ?_); clear hS; intro w hS; refine Ac ?_) | (refine Stp.go Aa (by rfl) (by rfl) (r_mul (k := .u64) (by rfl) (by rfl) (by rfl) (fits_u64 (by omega)) rfl) ?_; refine Ac ?_) | (refine Stp.go Aa (by rfl) (by rfl) (r_add (k := .u64) (by rfl) (by rfl) (by rfl) (fits_u64 (by omega)) rfl) ?_; refine Ac ?_)) | ((fail_if_success (with_reducible refine Ad ?_)); first | go_step | go_step3 | rw [Exit.noGoto_normal] | rw [Exit.noGoto_ret] | rw [Exit.noGoto_exit]))
      go_roundw
      case rel => exact ⟨k + 1, by omega, by push_cast; rfl, by rw [h2]; push_cast; rfl, hS⟩
      case measure => first | (simp [intOf]; done) | (simp [intOf]; omega)
    · obtain rfl : k = 8 := by omega
      clear hlt8
      repeat' (first | ((with_reducible refine Ad ?_); first | ((first | refine Bn Aa ?_ | refine Bq Aa ?_ | refine Aw Aa ?_ | refine Bi Aa Ab hS ?_ | refine Cp Aa (by first | exact ((hS).far hb).1) ?_ | refine Bg Aa Ab hS ?_ | refine Cq Aa (by first | exact ((hS).far hb).1) ?_ | refine Ag Aa ?_ | refine Af Aa ?_ | refine Cc Aa ?_ | refine Cb Aa ?_ | refine Ao Aa ?_ | refine Bz Aa ?_ | refine Bx Aa ?_ | refine Bu Aa ?_ | refine Bv Aa ?_ | refine Ca Aa ?_ | refine Bl Aa ?_ | refine Bh Aa ?_ | refine Bw Aa (fun hc => ?_) (fun hc => ?_) | refine Bb Aa ?_ | refine Ap Aa ?_ | refine Bc Aa ?_ | refine Aq Aa ?_ | refine Ah Aa ?_ | refine Av Aa ?_ | refine Ay Aa ?_ | refine Aj Aa ?_ | refine Al Aa ?_ | refine Ae Aa ?_ | refine Ai Aa ?_ | refine Bo Aa ?_ | refine Br Aa ?_ | refine Bt Aa ?_ | refine Bk Aa ?_ | refine Ax Aa ?_ | refine Ak Aa ?_ | refine Am Aa ?_ | refine Be Aa ?_ | refine Bd Aa ?_) <;> refine Ac ?_) | ((first | refine Bf Aa Ab hS ?_ | refine Bs Aa Ab hS ?_ | refine Ba Aa Ab hS ?_ | refine Bj Aa Ab hS ?_ | refine Bp Aa Ab hS ?_); clear hS; intro b w hS; refine Ac ?_) | ((first | refine Az Aa Ab hS ?_ | refine Ar Aa Ab hS ?_ | refine Au Aa Ab hS ?_); clear hS; intro w hS; refine Ac ?_) | (refine Stp.go Aa (by rfl) (by rfl) (r_convI (by rfl) (by rfl) (by infer_instance) (by infer_instance) hcn.symm) ?_; refine Ac ?_)) | ((fail_if_success (with_reducible refine Ad ?_)); first | go_step | go_step3 | rw [Exit.noGoto_normal] | rw [Exit.noGoto_ret] | rw [Exit.noGoto_exit]))
      go_ret2
      exact ⟨rfl, hS.below⟩
theorem r_neAB {P : Program} {o : Oper} {a : Act} {w : World} {t t' n : Nat} {x y : Operand} {l m : List UInt8} {q : Bool} (hop : o.op = .binOp .neq t x y t') (hx : evO a x = some (.agg (bvs l))) (hy : evO a y = some (.agg (bvs m))) (hb : isBytes P t n = true) (hg : P.eqGuardType P.depth t = false) (hl : l.length = n) (hm : m.length = n) (hq : (!(l == m)) = q) : (execOp a.eval o).run P w = .ok (.value (.bool q)) w := by
  unfold execOp; rw [hop]; subst hq
  simp only [Cd hx, Cd hy, Sem.run_bind, run_eqGuard_agg w .neq t x y _ _ hg, Result.andThen_ok, run_neq_struct, run_equalIn_bytes hb l m (by rw [Cg, hl]) (by rw [Cg, hm]) w]
  rfl
theorem r_eqAB {P : Program} {o : Oper} {a : Act} {w : World} {t t' n : Nat} {x y : Operand} {l m : List UInt8} {q : Bool} (hop : o.op = .binOp .eql t x y t') (hx : evO a x = some (.agg (bvs l))) (hy : evO a y = some (.agg (bvs m))) (hb : isBytes P t n = true) (hg : P.eqGuardType P.depth t = false) (hl : l.length = n) (hm : m.length = n) (hq : (l == m) = q) : (execOp a.eval o).run P w = .ok (.value (.bool q)) w := by
  unfold execOp; rw [hop]; subst hq
  simp only [Cd hx, Cd hy, Sem.run_bind, run_eqGuard_agg w .eql t x y _ _ hg, Result.andThen_ok, run_eql_struct, run_equalIn_bytes hb l m (by rw [Cg, hl]) (by rw [Cg, hm]) w]
  rfl
/-- A sector that is a head's, and the head's own sector. -/
theorem head_is {C : List UInt8} (hC : C.length = 128) (key : List UInt8) (h0 : 0 ≤ cntL C) : headC key (cntL C).toNat (restL C) = C ↔ tagL key (C.take 96) = C.drop 96 := by
  have l8 : (C.take 8).length = 8 := by rw [List.length_take]; omega
  have h1 := beN_lt (C.take 8)
  rw [l8] at h1
  have h3 : (256 : Nat) ^ 8 = 18446744073709551616 := by decide +kernel
  rw [h3] at h1
  have h2 : (cntL C).toNat = beN (C.take 8) := by
    unfold cntL wrap64 at h0 ⊢
    clear l8
    generalize beN (C.take 8) = x at *
    omega
  have h4 := beB_beN (C.take 8)
  rw [l8] at h4
  have h5 : headT (cntL C).toNat (restL C) = C.take 96 := by
    unfold headT restL
    rw [h2, h4, show 96 = 8 + 88 by omega, List.take_add]
  unfold headC
  rw [h5]
  constructor
  · intro h
    conv at h => rhs; rw [← List.take_append_drop 96 C]
    exact List.append_cancel_left h
  · intro h
    rw [h, List.take_append_drop]
theorem hd_set (n : Int) (P Q : List UInt8) (x y : UInt8) (v : Nat) {o : Nat} (h : o = P.length) (hv : x.toNat = v) : (hdV n (P ++ y :: Q)).setIfInBounds (1 + o) (.int .u8 (v : Int)) = hdV n (P ++ x :: Q) := by
  subst h hv
  unfold hdV
  rw [List.setIfInBounds_toArray, Nat.add_comm, List.set_cons_succ, List.map_append, List.set_append_right _ _ (by rw [List.length_map]; exact Nat.le_refl _), List.length_map, Nat.sub_self]
  simp [bv]
end Go.Proofs.Ytcjncidahjneaaa

namespace Go.Proofs.Ytcjncidahjneaaa
open Go.ChangeShapes Go.WideShapes Go.ChangeAt Go.RowKit
attribute [local irreducible] wpList wpListIn Oper.quietAt wpM
theorem getD_take {l : List UInt8} {n i : Nat} (h : i < n) : (l.take n).getD i 0 = l.getD i 0 := by
  rw [List.getD_eq_getElem?_getD, List.getElem?_take, if_pos h, List.getD_eq_getElem?_getD]
theorem getD_drop (l : List UInt8) (n i : Nat) : (l.drop n).getD i 0 = l.getD (n + i) 0 := by
  rw [List.getD_eq_getElem?_getD, List.getElem?_drop, List.getD_eq_getElem?_getD]
theorem take_snoc {l : List UInt8} {i : Nat} (h : i < l.length) : l.take (i + 1) = l.take i ++ [l.getD i 0] := by
  rw [List.take_add_one, List.getD_eq_getElem?_getD, List.getElem?_eq_getElem h]; rfl
theorem zs_cons {n m : Nat} (h : n = m + 1) : zs n = 0 :: zs m := by subst h; unfold zs; exact List.replicate_succ
attribute [local irreducible] tagL headC hdRes cntL restL
set_option maxRecDepth 100000 in
set_option maxHeartbeats 4000000 in
theorem refTakeHead_any (key : List UInt8) (hk : key.length ≤ 1000000) (C : List UInt8) (hC : C.length = 128) (kv : Value) (w0 : World) (hkv : BytesAt w0 kv key) :
    Calls Try.prog 13 #[kv, .agg (bvs C)] w0 fun e w' => e = .returned (hdRes key C) ∧ Below w0.heap.size w0 w' := by
  have hS := St.start w0
  have s1 : csz (bvs C) = 128 := by rw [Cg, hC]
  have hpos := @hdRes_pos key C
  have hneg' := @hdRes_neg key C
  have hhd := fun h => head_is hC key h
  obtain ⟨RV, hRV⟩ : ∃ RV, hdRes key C = RV := ⟨_, rfl⟩
  rw [hRV] at hpos hneg' ⊢
  clear hRV
  have hRl := restL_len hC
  have hRd : restL C = (C.drop 8).take 88 := by unfold restL; rfl
  have hrange : -9223372036854775808 ≤ cntL C ∧ cntL C ≤ 9223372036854775807 := by
    unfold cntL wrap64
    generalize beN (C.take 8) = x
    omega
  have hrt := fun b w hb => refTake8_any C hC b 128 128 rfl w hb
  obtain ⟨n, hn⟩ : ∃ n, cntL C = n := ⟨_, rfl⟩
  rw [hn] at hpos hneg' hhd hrange hrt
  obtain ⟨R, hR⟩ : ∃ R, restL C = R := ⟨_, rfl⟩
  rw [hR] at hRl hRd hpos hhd
  clear hn hR
  have sH : ∀ (n : Int) (X : List UInt8), X.length = 88 → csz (hdV n X) = 89 := fun n X h => by rw [hdV_size, h]
  have sH0 := sH 0 (zs 88) (zs_len 88)
  have sHn := sH n (zs 88) (zs_len 88)
  have sHR := sH n R hRl
  have hRg : ∀ j, j < 88 → R.getD j 0 = C.getD (8 + j) 0 := fun j hj => by rw [hRd, getD_take hj, getD_drop]
  obtain ⟨A, hA⟩ : ∃ A, R.take 32 = A := ⟨_, rfl⟩
  obtain ⟨D, hD⟩ : ∃ D, (R.drop 32).take 32 = D := ⟨_, rfl⟩
  obtain ⟨F, hF⟩ : ∃ F, R.drop 64 = F := ⟨_, rfl⟩
  have lA : A.length = 32 := by rw [← hA, List.length_take]; omega
  have lD : D.length = 32 := by rw [← hD, List.length_take, List.length_drop]; omega
  have lF : F.length = 24 := by rw [← hF, List.length_drop]; omega
  have gA : ∀ j, j < 32 → A.getD j 0 = C.getD (8 + j) 0 := fun j hj => by rw [← hA, getD_take hj, hRg j (by omega)]
  have gD : ∀ j, j < 32 → D.getD j 0 = C.getD (40 + j) 0 := fun j hj => by rw [← hD, getD_take hj, getD_drop, hRg _ (by omega)]; congr 1; omega
  have gF : ∀ j, j < 24 → F.getD j 0 = C.getD (72 + j) 0 := fun j hj => by rw [← hF, getD_drop, hRg _ (by omega)]; congr 1; omega
  have hall : A ++ (D ++ F) = R := by
    rw [← hA, ← hD, ← hF, show R.drop 64 = (R.drop 32).drop 32 by rw [List.drop_drop], List.take_append_drop, List.take_append_drop]
  clear hA hD hF hRg hRd
  go_enter Try.func13, Try.ntmps13
  repeat' (first | ((with_reducible refine Ad ?_); first | ((first | refine Bn Aa ?_ | refine Bq Aa ?_ | refine Aw Aa ?_ | refine Bi Aa Ab hS ?_ | refine Bg Aa Ab hS ?_ | refine Ag Aa ?_ | refine Af Aa ?_ | refine Cc Aa ?_ | refine Cb Aa ?_ | refine Ao Aa ?_ | refine Bz Aa ?_ | refine Bx Aa ?_ | refine Bu Aa ?_ | refine Bv Aa ?_ | refine Ca Aa ?_ | refine Bl Aa ?_ | refine Bh Aa ?_ | refine Bw Aa (fun hc => ?_) (fun hc => ?_) | refine Bb Aa ?_ | refine Ap Aa ?_ | refine Bc Aa ?_ | refine Aq Aa ?_ | refine Ah Aa ?_ | refine Av Aa ?_ | refine Ay Aa ?_ | refine Aj Aa ?_ | refine Al Aa ?_ | refine Ae Aa ?_ | refine Ai Aa ?_ | refine Bo Aa ?_ | refine Br Aa ?_ | refine Bt Aa ?_ | refine Bk Aa ?_ | refine Ax Aa ?_ | refine Ak Aa ?_ | refine Am Aa ?_ | refine Be Aa ?_ | refine Bd Aa ?_) <;> refine Ac ?_) | ((first | refine Bf Aa Ab hS ?_ | refine Bs Aa Ab hS ?_ | refine Ba Aa Ab hS ?_ | refine Bj Aa Ab hS ?_ | refine Bp Aa Ab hS ?_); clear hS; intro b w hS; refine Ac ?_) | ((first | refine Az Aa Ab hS ?_ | refine Ar Aa Ab hS ?_ | refine Au Aa Ab hS ?_); clear hS; intro w hS; refine Ac ?_) | (refine Cv Aa Ab hS (hrt _ _ (Ab.blk 1 hS rfl)) ?_; clear hS; intro w hS; refine Ac ?_)) | ((fail_if_success (with_reducible refine Ad ?_)); first | go_step | go_step3 | rw [Exit.noGoto_normal] | rw [Exit.noGoto_ret] | rw [Exit.noGoto_exit]))
  repeat' (first | ((with_reducible refine Ad ?_); first | (refine Stp.go Aa (by rfl) (by rfl) (r_built (by rfl) (by rfl) (hd_built n)) ?_; refine Ac ?_) | (refine Ar Aa Ab hS ?_ (hv := hdV_ones _ _); clear hS; intro w hS; refine Ac ?_) | ((first | refine Bn Aa ?_ | refine Bq Aa ?_ | refine Aw Aa ?_ | refine Bi Aa Ab hS ?_ | refine Bg Aa Ab hS ?_ | refine Ag Aa ?_ | refine Af Aa ?_ | refine Cc Aa ?_ | refine Cb Aa ?_ | refine Ao Aa ?_ | refine Bz Aa ?_ | refine Bx Aa ?_ | refine Bu Aa ?_ | refine Bv Aa ?_ | refine Ca Aa ?_ | refine Bl Aa ?_ | refine Bh Aa ?_ | refine Bw Aa (fun hc => ?_) (fun hc => ?_) | refine Bb Aa ?_ | refine Ap Aa ?_ | refine Bc Aa ?_ | refine Aq Aa ?_ | refine Ah Aa ?_ | refine Av Aa ?_ | refine Ay Aa ?_ | refine Aj Aa ?_ | refine Al Aa ?_ | refine Ae Aa ?_ | refine Ai Aa ?_ | refine Bo Aa ?_ | refine Br Aa ?_ | refine Bt Aa ?_ | refine Bk Aa ?_ | refine Ax Aa ?_ | refine Ak Aa ?_ | refine Am Aa ?_ | refine Be Aa ?_ | refine Bd Aa ?_) <;> refine Ac ?_) | ((first | refine Bf Aa Ab hS ?_ | refine Bs Aa Ab hS ?_ | refine Ba Aa Ab hS ?_ | refine Bj Aa Ab hS ?_ | refine Bp Aa Ab hS ?_); clear hS; intro b w hS; refine Ac ?_) | ((first | refine Az Aa Ab hS ?_ | refine Ar Aa Ab hS ?_ | refine Au Aa Ab hS ?_); clear hS; intro w hS; refine Ac ?_)) | ((fail_if_success (with_reducible refine Ad ?_)); first | go_step | go_step3 | rw [Exit.noGoto_normal] | rw [Exit.noGoto_ret] | rw [Exit.noGoto_exit]))
  rename_i bC z0 bR z1 z2 z3 KK hKK
  obtain ⟨b8, hb8⟩ : ∃ x, x = b := ⟨_, rfl⟩
  rw [← hb8] at hS ⊢
  clear hb8 hrt
  go_loopw [9] (fun u9 wr => ∃ i : Nat, i ≤ 32 ∧ u9 = .int .i64 (i : Int) ∧ St w0 wr [(b8, hdV n (A.take i ++ (zs (32 - i) ++ (D.take i ++ (zs (32 - i) ++ zs 24)))), 28), (bR, hdV 0 (zs 88), 28), (bC, bvs C, 30)]) (fun u9 _ => 32 - (intOf u9).toNat)
  case atStart => exact ⟨0, by omega, rfl, by
    rw [List.take_zero, List.take_zero, List.nil_append, List.nil_append]
    have e : zs (32 - 0) ++ (zs (32 - 0) ++ zs 24) = zs 88 := by unfold zs; rw [List.replicate_append_replicate, List.replicate_append_replicate]
    rw [e]
    exact hS⟩
  case round =>
    clear hS
    obtain ⟨i, hi, rfl, hS⟩ := hrel
    have la : (A.take i).length = i := by rw [List.length_take]; omega
    have ld : (D.take i).length = i := by rw [List.length_take]; omega
    by_cases hlt : i < 32
    · have hset1 : (hdV n (A.take i ++ (zs (32 - i) ++ (D.take i ++ (zs (32 - i) ++ zs 24))))).setIfInBounds (1 + i) (.int .u8 ((C.getD (8 + (i : Int)).toNat 0).toNat : Int)) = hdV n (A.take (i + 1) ++ (zs (31 - i) ++ (D.take i ++ (zs (32 - i) ++ zs 24)))) := by
        rw [zs_cons (show 32 - i = (31 - i) + 1 by omega), List.cons_append, hd_set n (A.take i) _ (A.getD i 0) 0 _ la.symm (by rw [gA i hlt, show (8 + (i : Int)).toNat = 8 + i by omega]), take_snoc (by omega)]
        congr 1
        simp only [List.append_assoc, List.cons_append, List.nil_append]
      have hset2 : (hdV n (A.take (i + 1) ++ (zs (31 - i) ++ (D.take i ++ (zs (32 - i) ++ zs 24))))).setIfInBounds (33 + i) (.int .u8 ((C.getD (40 + (i : Int)).toNat 0).toNat : Int)) = hdV n (A.take (i + 1) ++ (zs (32 - (i + 1)) ++ (D.take (i + 1) ++ (zs (32 - (i + 1)) ++ zs 24)))) := by
        rw [zs_cons (show 32 - i = (31 - i) + 1 by omega), List.cons_append, ← List.append_assoc, ← List.append_assoc, show 33 + i = 1 + (32 + i) by omega, hd_set n (A.take (i + 1) ++ zs (31 - i) ++ D.take i) _ (D.getD i 0) 0 _ (by rw [List.length_append, List.length_append, zs_len, ld, List.length_take]; omega) (by rw [gD i hlt, show (40 + (i : Int)).toNat = 40 + i by omega]), take_snoc (l := D) (by omega), show 32 - (i + 1) = 31 - i by omega]
        congr 1
        simp only [List.append_assoc, List.cons_append, List.nil_append]
      have s5 := sH n (A.take i ++ (zs (32 - i) ++ (D.take i ++ (zs (32 - i) ++ zs 24)))) (by simp only [List.length_append, la, ld, zs_len]; omega)
      have s6 := sH n (A.take (i + 1) ++ (zs (31 - i) ++ (D.take i ++ (zs (32 - i) ++ zs 24)))) (by simp only [List.length_append, List.length_take, ld, zs_len]; omega)
      obtain ⟨X, hX⟩ : ∃ X, A.take i ++ (zs (32 - i) ++ (D.take i ++ (zs (32 - i) ++ zs 24))) = X := ⟨_, rfl⟩
      rw [hX] at hS hset1 s5
      obtain ⟨Y, hY⟩ : ∃ Y, A.take (i + 1) ++ (zs (31 - i) ++ (D.take i ++ (zs (32 - i) ++ zs 24))) = Y := ⟨_, rfl⟩
      rw [hY] at hset1 hset2 s6
      clear hX hY hpos hneg' hhd gA gD gF
      repeat' (first | ((with_reducible refine Ad ?_); first | ((first | refine Bn Aa ?_ | refine Bq Aa ?_ | refine Aw Aa ?_ | refine Bi Aa Ab hS ?_ | refine Bg Aa Ab hS ?_ | refine Ag Aa ?_ | refine Af Aa ?_ | refine Cc Aa ?_ | refine Cb Aa ?_ | refine Ao Aa ?_ | refine Bz Aa ?_ | refine Bx Aa ?_ | refine Bu Aa ?_ | refine Bv Aa ?_ | refine Ca Aa ?_ | refine Bl Aa ?_ | refine Bh Aa ?_ | refine Bw Aa (fun hc => ?_) (fun hc => ?_) | refine Bb Aa ?_ | refine Ap Aa ?_ | refine Bc Aa ?_ | refine Aq Aa ?_ | refine Ah Aa ?_ | refine Av Aa ?_ | refine Ay Aa ?_ | refine Aj Aa ?_ | refine Al Aa ?_ | refine Ae Aa ?_ | refine Ai Aa ?_ | refine Bo Aa ?_ | refine Br Aa ?_ | refine Bt Aa ?_ | refine Bk Aa ?_ | refine Ax Aa ?_ | refine Ak Aa ?_ | refine Am Aa ?_ | refine Be Aa ?_ | refine Bd Aa ?_) <;> refine Ac ?_) | ((first | refine Bf Aa Ab hS ?_ | refine Bs Aa Ab hS ?_ | refine Ba Aa Ab hS ?_ | refine Bj Aa Ab hS ?_ | refine Bp Aa Ab hS ?_); clear hS; intro b w hS; refine Ac ?_) | ((first | refine Az Aa Ab hS ?_ | refine Ar Aa Ab hS ?_ | refine Au Aa Ab hS ?_); clear hS; intro w hS; refine Ac ?_)) | ((fail_if_success (with_reducible refine Ad ?_)); first | go_step | go_step3 | rw [Exit.noGoto_normal] | rw [Exit.noGoto_ret] | rw [Exit.noGoto_exit]))
      rw [hset1, hset2] at hS
      go_roundw
      case rel => exact ⟨i + 1, by omega, by push_cast; rfl, hS⟩
      case measure => first | (simp [intOf]; done) | (simp [intOf]; omega)
    · obtain rfl : i = 32 := by omega
      replace hS : St w0 wr [(b8, hdV n (A ++ (D ++ zs 24)), 28), (bR, hdV 0 (zs 88), 28), (bC, bvs C, 30)] := by
        have e : A.take 32 ++ (zs (32 - 32) ++ (D.take 32 ++ (zs (32 - 32) ++ zs 24))) = A ++ (D ++ zs 24) := by
          rw [Nat.sub_self, zs0, List.nil_append, List.nil_append, List.take_of_length_le (by omega), List.take_of_length_le (by omega)]
        rw [e] at hS; exact hS
      repeat' (first | ((with_reducible refine Ad ?_); first | ((first | refine Bn Aa ?_ | refine Bq Aa ?_ | refine Aw Aa ?_ | refine Bi Aa Ab hS ?_ | refine Bg Aa Ab hS ?_ | refine Ag Aa ?_ | refine Af Aa ?_ | refine Cc Aa ?_ | refine Cb Aa ?_ | refine Ao Aa ?_ | refine Bz Aa ?_ | refine Bx Aa ?_ | refine Bu Aa ?_ | refine Bv Aa ?_ | refine Ca Aa ?_ | refine Bl Aa ?_ | refine Bh Aa ?_ | refine Bw Aa (fun hc => ?_) (fun hc => ?_) | refine Bb Aa ?_ | refine Ap Aa ?_ | refine Bc Aa ?_ | refine Aq Aa ?_ | refine Ah Aa ?_ | refine Av Aa ?_ | refine Ay Aa ?_ | refine Aj Aa ?_ | refine Al Aa ?_ | refine Ae Aa ?_ | refine Ai Aa ?_ | refine Bo Aa ?_ | refine Br Aa ?_ | refine Bt Aa ?_ | refine Bk Aa ?_ | refine Ax Aa ?_ | refine Ak Aa ?_ | refine Am Aa ?_ | refine Be Aa ?_ | refine Bd Aa ?_) <;> refine Ac ?_) | ((first | refine Bf Aa Ab hS ?_ | refine Bs Aa Ab hS ?_ | refine Ba Aa Ab hS ?_ | refine Bj Aa Ab hS ?_ | refine Bp Aa Ab hS ?_); clear hS; intro b w hS; refine Ac ?_) | ((first | refine Az Aa Ab hS ?_ | refine Ar Aa Ab hS ?_ | refine Au Aa Ab hS ?_); clear hS; intro w hS; refine Ac ?_)) | ((fail_if_success (with_reducible refine Ad ?_)); first | go_step | go_step3 | rw [Exit.noGoto_normal] | rw [Exit.noGoto_ret] | rw [Exit.noGoto_exit]))
      go_loopw [10] (fun u10 wr => ∃ i : Nat, i ≤ 24 ∧ u10 = .int .i64 (i : Int) ∧ St w0 wr [(b8, hdV n (A ++ (D ++ (F.take i ++ zs (24 - i)))), 28), (bR, hdV 0 (zs 88), 28), (bC, bvs C, 30)]) (fun u10 _ => 24 - (intOf u10).toNat)
      case atStart => exact ⟨0, by omega, rfl, hS⟩
      case round =>
        clear hS
        obtain ⟨i, hi, rfl, hS⟩ := hrel
        have lf : (F.take i).length = i := by rw [List.length_take]; omega
        have s5 := sH n (A ++ (D ++ (F.take i ++ zs (24 - i)))) (by simp only [List.length_append, lf, lA, lD, zs_len]; omega)
        by_cases hlt : i < 24
        · have hset : (hdV n (A ++ (D ++ (F.take i ++ zs (24 - i))))).setIfInBounds (65 + i) (.int .u8 ((C.getD (72 + (i : Int)).toNat 0).toNat : Int)) = hdV n (A ++ (D ++ (F.take (i + 1) ++ zs (24 - (i + 1))))) := by
            rw [zs_cons (show 24 - i = (24 - (i + 1)) + 1 by omega), ← List.append_assoc, ← List.append_assoc, show 65 + i = 1 + (64 + i) by omega, hd_set n (A ++ D ++ F.take i) _ (F.getD i 0) 0 _ (by rw [List.length_append, List.length_append, lf, lA, lD]) (by rw [gF i hlt, show (72 + (i : Int)).toNat = 72 + i by omega]), take_snoc (l := F) (by omega)]
            congr 1
            simp only [List.append_assoc, List.cons_append, List.nil_append]
          obtain ⟨X, hX⟩ : ∃ X, A ++ (D ++ (F.take i ++ zs (24 - i))) = X := ⟨_, rfl⟩
          rw [hX] at hS hset s5
          clear hX hpos hneg' hhd gA gD gF
          repeat' (first | ((with_reducible refine Ad ?_); first | ((first | refine Bn Aa ?_ | refine Bq Aa ?_ | refine Aw Aa ?_ | refine Bi Aa Ab hS ?_ | refine Bg Aa Ab hS ?_ | refine Ag Aa ?_ | refine Af Aa ?_ | refine Cc Aa ?_ | refine Cb Aa ?_ | refine Ao Aa ?_ | refine Bz Aa ?_ | refine Bx Aa ?_ | refine Bu Aa ?_ | refine Bv Aa ?_ | refine Ca Aa ?_ | refine Bl Aa ?_ | refine Bh Aa ?_ | refine Bw Aa (fun hc => ?_) (fun hc => ?_) | refine Bb Aa ?_ | refine Ap Aa ?_ | refine Bc Aa ?_ | refine Aq Aa ?_ | refine Ah Aa ?_ | refine Av Aa ?_ | refine Ay Aa ?_ | refine Aj Aa ?_ | refine Al Aa ?_ | refine Ae Aa ?_ | refine Ai Aa ?_ | refine Bo Aa ?_ | refine Br Aa ?_ | refine Bt Aa ?_ | refine Bk Aa ?_ | refine Ax Aa ?_ | refine Ak Aa ?_ | refine Am Aa ?_ | refine Be Aa ?_ | refine Bd Aa ?_) <;> refine Ac ?_) | ((first | refine Bf Aa Ab hS ?_ | refine Bs Aa Ab hS ?_ | refine Ba Aa Ab hS ?_ | refine Bj Aa Ab hS ?_ | refine Bp Aa Ab hS ?_); clear hS; intro b w hS; refine Ac ?_) | ((first | refine Az Aa Ab hS ?_ | refine Ar Aa Ab hS ?_ | refine Au Aa Ab hS ?_); clear hS; intro w hS; refine Ac ?_)) | ((fail_if_success (with_reducible refine Ad ?_)); first | go_step | go_step3 | rw [Exit.noGoto_normal] | rw [Exit.noGoto_ret] | rw [Exit.noGoto_exit]))
          rw [hset] at hS
          go_roundw
          case rel => exact ⟨i + 1, by omega, by push_cast; rfl, hS⟩
          case measure => first | (simp [intOf]; done) | (simp [intOf]; omega)
        · obtain rfl : i = 24 := by omega
          replace hS : St w0 wr [(b8, hdV n R, 28), (bR, hdV 0 (zs 88), 28), (bC, bvs C, 30)] := by
            have e : A ++ (D ++ (F.take 24 ++ zs (24 - 24))) = R := by rw [Nat.sub_self, zs0, List.append_nil, List.take_of_length_le (by omega), hall]
            rw [e] at hS; exact hS
          have sz128 : csz (bvs (zs 128)) = 128 := by rw [Cg, zs_len]
          clear gA gD gF
          by_cases hneg : n < 0
          · have hRV' := hneg' (fun h => absurd h.1 (Int.not_le.2 hneg))
            clear hneg' hpos hhd
            have hcl := fun w => refHead_bad n hneg R hRl kv w
            repeat' (first | ((with_reducible refine Ad ?_); first | (refine Cv Aa Ab hS (hcl _) ?_; clear hS; intro w hS; refine Ac ?_) | (refine Stp.go Aa (by rfl) (by rfl) (r_built (by rfl) (by rfl) hd_built0) ?_; refine Ac ?_) | (refine Ar Aa Ab hS ?_ (hv := hdV_ones _ _); clear hS; intro w hS; refine Ac ?_) | ((first | refine Bn Aa ?_ | refine Bq Aa ?_ | refine Aw Aa ?_ | refine Bi Aa Ab hS ?_ | refine Bg Aa Ab hS ?_ | refine Ag Aa ?_ | refine Af Aa ?_ | refine Cc Aa ?_ | refine Cb Aa ?_ | refine Ao Aa ?_ | refine Bz Aa ?_ | refine Bx Aa ?_ | refine Bu Aa ?_ | refine Bv Aa ?_ | refine Ca Aa ?_ | refine Bl Aa ?_ | refine Bh Aa ?_ | refine Bw Aa (fun hc => ?_) (fun hc => ?_) | refine Bb Aa ?_ | refine Ap Aa ?_ | refine Bc Aa ?_ | refine Aq Aa ?_ | refine Ah Aa ?_ | refine Av Aa ?_ | refine Ay Aa ?_ | refine Aj Aa ?_ | refine Al Aa ?_ | refine Ae Aa ?_ | refine Ai Aa ?_ | refine Bo Aa ?_ | refine Br Aa ?_ | refine Bt Aa ?_ | refine Bk Aa ?_ | refine Ax Aa ?_ | refine Ak Aa ?_ | refine Am Aa ?_ | refine Be Aa ?_ | refine Bd Aa ?_) <;> refine Ac ?_) | ((first | refine Bf Aa Ab hS ?_ | refine Bs Aa Ab hS ?_ | refine Ba Aa Ab hS ?_ | refine Bj Aa Ab hS ?_ | refine Bp Aa Ab hS ?_); clear hS; intro b w hS; refine Ac ?_) | ((first | refine Az Aa Ab hS ?_ | refine Ar Aa Ab hS ?_ | refine Au Aa Ab hS ?_); clear hS; intro w hS; refine Ac ?_)) | ((fail_if_success (with_reducible refine Ad ?_)); first | go_step | go_step3 | rw [Exit.noGoto_normal] | rw [Exit.noGoto_ret] | rw [Exit.noGoto_exit]))
            exact post_cell_tmp (n := 89) Try.results13 (by kernel_rfl) (.inl rfl) _ _ _ _ rfl rfl (hS.blk 2 rfl) (by rw [← csz_is]; exact sH0) ⟨by rw [hRV']; rfl, hS.below⟩
          · have hn0 : 0 ≤ n := Int.not_lt.1 hneg
            obtain ⟨N, rfl⟩ : ∃ N : Nat, n = (N : Int) := ⟨n.toNat, by omega⟩
            have hh := hhd hn0
            rw [Int.toNat_natCast] at hh
            have hcl := fun w hv => refHead_good key hk N (by omega) R hRl kv w hv
            have hYl := headC_len key N hRl
            obtain ⟨Y, hY⟩ : ∃ Y, headC key N R = Y := ⟨_, rfl⟩
            rw [hY] at hh hcl hYl
            have sY : csz (bvs Y) = 128 := by rw [Cg, hYl]
            by_cases heq : Y = C
            · have hRV' := hpos hn0 (hh.1 heq)
              have hb : (!(Y == C)) = false := by rw [heq]; simp
              clear hneg' hpos hhd hh
              repeat' (first | ((with_reducible refine Ad ?_); first | (refine Cv Aa Ab hS (hcl _ (hkv.below hS.below)) ?_; clear hS; intro w hS; refine Ac ?_) | (refine Stp.go Aa (by rfl) (by rfl) (r_neAB (by rfl) (by rfl) (by rfl) (by kernel_rfl) (by kernel_rfl) hYl hC hb) ?_; refine Ac ?_) | (refine Ar Aa Ab hS ?_ (hv := hdV_ones _ _); clear hS; intro w hS; refine Ac ?_) | ((first | refine Bn Aa ?_ | refine Bq Aa ?_ | refine Aw Aa ?_ | refine Bi Aa Ab hS ?_ | refine Bg Aa Ab hS ?_ | refine Ag Aa ?_ | refine Af Aa ?_ | refine Cc Aa ?_ | refine Cb Aa ?_ | refine Ao Aa ?_ | refine Bz Aa ?_ | refine Bx Aa ?_ | refine Bu Aa ?_ | refine Bv Aa ?_ | refine Ca Aa ?_ | refine Bl Aa ?_ | refine Bh Aa ?_ | refine Bw Aa (fun hc => ?_) (fun hc => ?_) | refine Bb Aa ?_ | refine Ap Aa ?_ | refine Bc Aa ?_ | refine Aq Aa ?_ | refine Ah Aa ?_ | refine Av Aa ?_ | refine Ay Aa ?_ | refine Aj Aa ?_ | refine Al Aa ?_ | refine Ae Aa ?_ | refine Ai Aa ?_ | refine Bo Aa ?_ | refine Br Aa ?_ | refine Bt Aa ?_ | refine Bk Aa ?_ | refine Ax Aa ?_ | refine Ak Aa ?_ | refine Am Aa ?_ | refine Be Aa ?_ | refine Bd Aa ?_) <;> refine Ac ?_) | ((first | refine Bf Aa Ab hS ?_ | refine Bs Aa Ab hS ?_ | refine Ba Aa Ab hS ?_ | refine Bj Aa Ab hS ?_ | refine Bp Aa Ab hS ?_); clear hS; intro b w hS; refine Ac ?_) | ((first | refine Az Aa Ab hS ?_ | refine Ar Aa Ab hS ?_ | refine Au Aa Ab hS ?_); clear hS; intro w hS; refine Ac ?_)) | ((fail_if_success (with_reducible refine Ad ?_)); first | go_step | go_step3 | rw [Exit.noGoto_normal] | rw [Exit.noGoto_ret] | rw [Exit.noGoto_exit]))
              exact post_cell_tmp (n := 89) Try.results13 (by kernel_rfl) (.inl rfl) _ _ _ _ rfl rfl (hS.blk 2 rfl) (by rw [← csz_is]; exact sHR) ⟨by rw [hRV']; rfl, hS.below⟩
            · have hRV' := hneg' (fun h => heq (hh.2 h.2))
              have hb : (!(Y == C)) = true := by simpa using heq
              clear hneg' hpos hhd hh
              repeat' (first | ((with_reducible refine Ad ?_); first | (refine Cv Aa Ab hS (hcl _ (hkv.below hS.below)) ?_; clear hS; intro w hS; refine Ac ?_) | (refine Stp.go Aa (by rfl) (by rfl) (r_neAB (by rfl) (by rfl) (by rfl) (by kernel_rfl) (by kernel_rfl) hYl hC hb) ?_; refine Ac ?_) | (refine Stp.go Aa (by rfl) (by rfl) (r_built (by rfl) (by rfl) hd_built0) ?_; refine Ac ?_) | (refine Ar Aa Ab hS ?_ (hv := hdV_ones _ _); clear hS; intro w hS; refine Ac ?_) | ((first | refine Bn Aa ?_ | refine Bq Aa ?_ | refine Aw Aa ?_ | refine Bi Aa Ab hS ?_ | refine Bg Aa Ab hS ?_ | refine Ag Aa ?_ | refine Af Aa ?_ | refine Cc Aa ?_ | refine Cb Aa ?_ | refine Ao Aa ?_ | refine Bz Aa ?_ | refine Bx Aa ?_ | refine Bu Aa ?_ | refine Bv Aa ?_ | refine Ca Aa ?_ | refine Bl Aa ?_ | refine Bh Aa ?_ | refine Bw Aa (fun hc => ?_) (fun hc => ?_) | refine Bb Aa ?_ | refine Ap Aa ?_ | refine Bc Aa ?_ | refine Aq Aa ?_ | refine Ah Aa ?_ | refine Av Aa ?_ | refine Ay Aa ?_ | refine Aj Aa ?_ | refine Al Aa ?_ | refine Ae Aa ?_ | refine Ai Aa ?_ | refine Bo Aa ?_ | refine Br Aa ?_ | refine Bt Aa ?_ | refine Bk Aa ?_ | refine Ax Aa ?_ | refine Ak Aa ?_ | refine Am Aa ?_ | refine Be Aa ?_ | refine Bd Aa ?_) <;> refine Ac ?_) | ((first | refine Bf Aa Ab hS ?_ | refine Bs Aa Ab hS ?_ | refine Ba Aa Ab hS ?_ | refine Bj Aa Ab hS ?_ | refine Bp Aa Ab hS ?_); clear hS; intro b w hS; refine Ac ?_) | ((first | refine Az Aa Ab hS ?_ | refine Ar Aa Ab hS ?_ | refine Au Aa Ab hS ?_); clear hS; intro w hS; refine Ac ?_)) | ((fail_if_success (with_reducible refine Ad ?_)); first | go_step | go_step3 | rw [Exit.noGoto_normal] | rw [Exit.noGoto_ret] | rw [Exit.noGoto_exit]))
              exact post_cell_tmp (n := 89) Try.results13 (by kernel_rfl) (.inl rfl) _ _ _ _ rfl rfl (hS.blk 2 rfl) (by rw [← csz_is]; exact sH0) ⟨by rw [hRV']; rfl, hS.below⟩
end Go.Proofs.Ytcjncidahjneaaa
