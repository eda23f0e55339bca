/-
  The law VaultHeads: for every key, head and sector it answers true. No condition.
-/
import Derived.Test.YtcjncidahjneaaaRows
import Derived.Test.YtcjncidahjneaaaJK0

namespace Go.Proofs.Ytcjncidahjneaaa
open Go.ChangeShapes Go.WideShapes Go.ChangeAt Go.RowKit
attribute [local irreducible] wpList wpListIn Oper.quietAt wpM
attribute [local irreducible] tagL headC hdRes
theorem head_seven (O : List UInt8) (h : O.take 8 = beB 3 8) : O.getD 7 0 = 3 := by
  have e : O.getD 7 0 = (O.take 8).getD 7 0 := (getD_take (by omega)).symm
  rw [e, h]
  decide +kernel
theorem r_eqBB {P : Program} {o : Oper} {a : Act} {w : World} {t t' : TypeId} {x y : Operand} {b : Bool} (hop : o.op = .binOp .eql t x y t') (hx : evO a x = some (.bool b)) (hy : evO a y = some (.bool b)) (ht : P.underlying t = some .bool) : (execOp a.eval o).run P w = .ok (.value (.bool true)) w := by
  unfold execOp; rw [hop]
  have h := run_equalIn_bool (P := P) w 9999 t b b ht
  simp [Cd hx, Cd hy, Sem.run_bind, eqGuard, binOp, Op.equal, Op.maxDepth, h]
theorem is_err2 (w0 : World) : Calls Try.prog 14 #[.iface 40 (.int .i64 2), .int .i64 2] w0 fun e w' => e = .returned (.bool true) ∧ Below w0.heap.size w0 w' := by
  have hS := St.start w0
  go_enter Try.func14, Try.ntmps14
  repeat' (first | ((with_reducible refine Ad ?_); first | ((first | refine Bn Aa ?_ | refine Bq Aa ?_ | refine Aw Aa ?_ | refine Bi Aa Ab hS ?_ | refine Bg Aa Ab hS ?_ | refine Ag Aa ?_ | refine Af Aa ?_ | refine Cc Aa ?_ | refine Cb Aa ?_ | refine Ao Aa ?_ | refine Bz Aa ?_ | refine Bx Aa ?_ | refine Bu Aa ?_ | refine Bv Aa ?_ | refine Ca Aa ?_ | refine Bl Aa ?_ | refine Bh Aa ?_ | refine Bw Aa (fun hc => ?_) (fun hc => ?_) | refine Bb Aa ?_ | refine Ap Aa ?_ | refine Bc Aa ?_ | refine Aq Aa ?_ | refine Ah Aa ?_ | refine Av Aa ?_ | refine Ay Aa ?_ | refine Aj Aa ?_ | refine Al Aa ?_ | refine Ae Aa ?_ | refine Ai Aa ?_ | refine Bo Aa ?_ | refine Br Aa ?_ | refine Bt Aa ?_ | refine Bk Aa ?_ | refine Ax Aa ?_ | refine Ak Aa ?_ | refine Am Aa ?_ | refine Be Aa ?_ | refine Bd Aa ?_) <;> refine Ac ?_) | ((first | refine Bf Aa Ab hS ?_ | refine Bs Aa Ab hS ?_ | refine Ba Aa Ab hS ?_ | refine Bj Aa Ab hS ?_ | refine Bp Aa Ab hS ?_); clear hS; intro b w hS; refine Ac ?_) | ((first | refine Az Aa Ab hS ?_ | refine Ar Aa Ab hS ?_ | refine Au Aa Ab hS ?_); clear hS; intro w hS; refine Ac ?_)) | ((fail_if_success (with_reducible refine Ad ?_)); first | go_step | go_step3 | rw [Exit.noGoto_normal] | rw [Exit.noGoto_ret] | rw [Exit.noGoto_exit]))
  refine s_call Aa (by rfl) (by rfl) (by rfl) (by rfl) (by rfl) (by infer_instance) (num_err 2 rfl _) ?_
  rintro e w' ⟨rfl, rfl⟩
  refine ⟨_, rfl, ?_⟩
  refine Ac ?_
  repeat' (first | ((with_reducible refine Ad ?_); first | ((first | refine Bn Aa ?_ | refine Bq Aa ?_ | refine Aw Aa ?_ | refine Bi Aa Ab hS ?_ | refine Bg Aa Ab hS ?_ | refine Ag Aa ?_ | refine Af Aa ?_ | refine Cc Aa ?_ | refine Cb Aa ?_ | refine Ao Aa ?_ | refine Bz Aa ?_ | refine Bx Aa ?_ | refine Bu Aa ?_ | refine Bv Aa ?_ | refine Ca Aa ?_ | refine Bl Aa ?_ | refine Bh Aa ?_ | refine Bw Aa (fun hc => ?_) (fun hc => ?_) | refine Bb Aa ?_ | refine Ap Aa ?_ | refine Bc Aa ?_ | refine Aq Aa ?_ | refine Ah Aa ?_ | refine Av Aa ?_ | refine Ay Aa ?_ | refine Aj Aa ?_ | refine Al Aa ?_ | refine Ae Aa ?_ | refine Ai Aa ?_ | refine Bo Aa ?_ | refine Br Aa ?_ | refine Bt Aa ?_ | refine Bk Aa ?_ | refine Ax Aa ?_ | refine Ak Aa ?_ | refine Am Aa ?_ | refine Be Aa ?_ | refine Bd Aa ?_) <;> refine Ac ?_) | ((first | refine Bf Aa Ab hS ?_ | refine Bs Aa Ab hS ?_ | refine Ba Aa Ab hS ?_ | refine Bj Aa Ab hS ?_ | refine Bp Aa Ab hS ?_); clear hS; intro b w hS; refine Ac ?_) | ((first | refine Az Aa Ab hS ?_ | refine Ar Aa Ab hS ?_ | refine Au Aa Ab hS ?_); clear hS; intro w hS; refine Ac ?_)) | ((fail_if_success (with_reducible refine Ad ?_)); first | go_step | go_step3 | rw [Exit.noGoto_normal] | rw [Exit.noGoto_ret] | rw [Exit.noGoto_exit]))
  go_ret
  exact ⟨rfl, hS.below⟩
set_option maxRecDepth 100000 in
set_option maxHeartbeats 4000000 in
theorem vaultHeads_any (key : List UInt8) (n : Int) (B C : List UInt8) (hB : B.length = 88) (hn : -9223372036854775808 ≤ n ∧ n ≤ 9223372036854775807) (hC : C.length = 128) (kv : Value) (w0 : World) (hkv : BytesAt w0 kv key) :
    Calls Try.prog 3 #[kv, .agg (hdV n B), .agg (bvs C)] w0 fun e w' => e = .returned (.bool true) ∧ Below w0.heap.size w0 w' := by
  obtain ⟨p, c, hkp, hkc⟩ := hkv.slice
  have hS := St.start w0
  have sC : csz (bvs C) = 128 := by rw [Cg, hC]
  have sH : ∀ (n : Int) (X : List UInt8), X.length = 88 → csz (hdV n X) = 89 := fun n X h => by rw [hdV_size, h]
  have sB := sH n B hB
  have sZ := sH 0 (zs 88) (zs_len 88)
  have s128 : csz (bvs (zs 128)) = 128 := by rw [Cg, zs_len]
  by_cases hbig : 1000 < key.length
  · subst hkp
    go_enter Try.func3, Try.ntmps3
    repeat' (first | ((with_reducible refine Ad ?_); first | ((first | refine Bn Aa ?_ | refine Bq Aa ?_ | refine Aw Aa ?_ | refine Bi Aa Ab hS ?_ | refine Bg Aa Ab hS ?_ | refine Ag Aa ?_ | refine Af Aa ?_ | refine Cc Aa ?_ | refine Cb Aa ?_ | refine Ao Aa ?_ | refine Bz Aa ?_ | refine Bx Aa ?_ | refine Bu Aa ?_ | refine Bv Aa ?_ | refine Ca Aa ?_ | refine Bl Aa ?_ | refine Bh Aa ?_ | refine Bw Aa (fun hc => ?_) (fun hc => ?_) | refine Bb Aa ?_ | refine Ap Aa ?_ | refine Bc Aa ?_ | refine Aq Aa ?_ | refine Ah Aa ?_ | refine Av Aa ?_ | refine Ay Aa ?_ | refine Aj Aa ?_ | refine Al Aa ?_ | refine Ae Aa ?_ | refine Ai Aa ?_ | refine Bo Aa ?_ | refine Br Aa ?_ | refine Bt Aa ?_ | refine Bk Aa ?_ | refine Ax Aa ?_ | refine Ak Aa ?_ | refine Am Aa ?_ | refine Be Aa ?_ | refine Bd Aa ?_) <;> refine Ac ?_) | ((first | refine Bf Aa Ab hS ?_ | refine Bs Aa Ab hS ?_ | refine Ba Aa Ab hS ?_ | refine Bj Aa Ab hS ?_ | refine Bp Aa Ab hS ?_); clear hS; intro b w hS; refine Ac ?_) | ((first | refine Az Aa Ab hS ?_ | refine Ar Aa Ab hS ?_ | refine Au Aa Ab hS ?_); clear hS; intro w hS; refine Ac ?_)) | ((fail_if_success (with_reducible refine Ad ?_)); first | go_step | go_step3 | rw [Exit.noGoto_normal] | rw [Exit.noGoto_ret] | rw [Exit.noGoto_exit]))
    go_ret
    exact ⟨rfl, hS.below⟩
  have hk : key.length ≤ 1000000 := by omega
  -- the sector that came in
  obtain ⟨m, X, s, hX, hres⟩ := hdRes_form key C hC
  have hta := fun w hv => takeHead_any key hk C hC kv w hv
  have htb := fun w hv => refTakeHead_any key hk C hC kv w hv
  rw [hres] at hta htb
  have sX := sH m X hX
  -- the fixed head
  have hf := fun w => headCell_good [] (by simp) 3 (by omega) (zs 88) (zs_len 88) (.slice none 0 0) w ⟨none, 0, rfl, Nat.le_refl _, fun _ => rfl, fun h => absurd rfl h⟩
  have lO := headC_len [] 3 (zs_len 88)
  have h7 : (headC [] 3 (zs 88)).take 8 = beB 3 8 := by
    unfold headC headT
    rw [List.append_assoc, List.take_left' (beB_len _ _)]
  have h7' := head_seven _ h7
  obtain ⟨O, hO⟩ : ∃ O, headC [] 3 (zs 88) = O := ⟨_, rfl⟩
  rw [hO] at hf lO h7'
  have sO : csz (bvs O) = 128 := by rw [Cg, lO]
  have h7i : ((O.getD 7 0).toNat : Int) = 3 := by rw [h7']; rfl
  clear hO h7 h7' hres
  by_cases hneg : n < 0
  · have ha := fun w => headCell_bad n hneg B hB kv w
    have hb := fun w => refHead_bad n hneg B hB kv w
    have hq : (zs 128 == zs 128) = true := by simp
    subst hkp
    go_enter Try.func3, Try.ntmps3
    repeat' (first | ((with_reducible refine Ad ?_); first | (refine Cv Aa Ab hS (ha _) ?_; clear hS; intro w hS; refine Ac ?_) | (refine Cv Aa Ab hS (hb _) ?_; clear hS; intro w hS; refine Ac ?_) | (refine Cv Aa Ab hS (hta _ (hkv.below hS.below)) ?_; clear hS; intro w hS; refine Ac ?_) | (refine Cv Aa Ab hS (htb _ (hkv.below hS.below)) ?_; clear hS; intro w hS; refine Ac ?_) | (refine Cv Aa Ab hS (hf _) ?_; clear hS; intro w hS; refine Ac ?_) | (refine Cv Aa Ab hS (is_err2 _) ?_; clear hS; intro w hS; refine Ac ?_) | (refine Stp.go Aa (by rfl) (by rfl) (r_built (by rfl) (by rfl) (hd_built 3)) ?_; refine Ac ?_) | (refine Stp.go Aa (by rfl) (by rfl) (r_eqH hX (by rfl) (by rfl) (by rfl) (by kernel_rfl)) ?_; refine Ac ?_) | (refine Stp.go Aa (by rfl) (by rfl) (r_eqBB (by rfl) (by rfl) (by rfl) (by exact Try.underlying4)) ?_; refine Ac ?_) | (refine Stp.go Aa (by rfl) (by rfl) (r_eqAB (by rfl) (by rfl) (by rfl) (by kernel_rfl) (by kernel_rfl) (zs_len 128) (zs_len 128) hq) ?_; refine Ac ?_) | (refine Ar Aa Ab hS ?_ (hv := hdV_ones _ _); clear hS; intro w hS; refine Ac ?_) | ((first | refine Bn Aa ?_ | refine Bq Aa ?_ | refine Aw Aa ?_ | refine Bi Aa Ab hS ?_ | refine Bg Aa Ab hS ?_ | refine Ag Aa ?_ | refine Af Aa ?_ | refine Cc Aa ?_ | refine Cb Aa ?_ | refine Ao Aa ?_ | refine Bz Aa ?_ | refine Bx Aa ?_ | refine Bu Aa ?_ | refine Bv Aa ?_ | refine Ca Aa ?_ | refine Bl Aa ?_ | refine Bh Aa ?_ | refine Bw Aa (fun hc => ?_) (fun hc => ?_) | refine Bb Aa ?_ | refine Ap Aa ?_ | refine Bc Aa ?_ | refine Aq Aa ?_ | refine Ah Aa ?_ | refine Av Aa ?_ | refine Ay Aa ?_ | refine Aj Aa ?_ | refine Al Aa ?_ | refine Ae Aa ?_ | refine Ai Aa ?_ | refine Bo Aa ?_ | refine Br Aa ?_ | refine Bt Aa ?_ | refine Bk Aa ?_ | refine Ax Aa ?_ | refine Ak Aa ?_ | refine Am Aa ?_ | refine Be Aa ?_ | refine Bd Aa ?_) <;> refine Ac ?_) | ((first | refine Bf Aa Ab hS ?_ | refine Bs Aa Ab hS ?_ | refine Ba Aa Ab hS ?_ | refine Bj Aa Ab hS ?_ | refine Bp Aa Ab hS ?_); clear hS; intro b w hS; refine Ac ?_) | ((first | refine Az Aa Ab hS ?_ | refine Ar Aa Ab hS ?_ | refine Au Aa Ab hS ?_); clear hS; intro w hS; refine Ac ?_)) | ((fail_if_success (with_reducible refine Ad ?_)); first | go_step | go_step3 | rw [Exit.noGoto_normal] | rw [Exit.noGoto_ret] | rw [Exit.noGoto_exit]))
    go_ret
    exact ⟨rfl, hS.below⟩
  · obtain ⟨N, rfl⟩ : ∃ N : Nat, n = (N : Int) := ⟨n.toNat, by omega⟩
    have ha := fun w hv => headCell_good key hk N (by omega) B hB kv w hv
    have hb := fun w hv => refHead_good key hk N (by omega) B hB kv w hv
    have lY := headC_len key N hB
    have hts := fun w hv => takeHead_any key hk (headC key N B) lY kv w hv
    rw [hdRes_self key N (by omega) B hB] at hts
    obtain ⟨Y, hY⟩ : ∃ Y, headC key N B = Y := ⟨_, rfl⟩
    rw [hY] at ha hb lY hts
    have sY : csz (bvs Y) = 128 := by rw [Cg, lY]
    have hq : (Y == Y) = true := by simp
    clear hY
    subst hkp
    go_enter Try.func3, Try.ntmps3
    repeat' (first | ((with_reducible refine Ad ?_); first | (refine Cv Aa Ab hS (ha _ (hkv.below hS.below)) ?_; clear hS; intro w hS; refine Ac ?_) | (refine Cv Aa Ab hS (hb _ (hkv.below hS.below)) ?_; clear hS; intro w hS; refine Ac ?_) | (refine Cv Aa Ab hS (hta _ (hkv.below hS.below)) ?_; clear hS; intro w hS; refine Ac ?_) | (refine Cv Aa Ab hS (htb _ (hkv.below hS.below)) ?_; clear hS; intro w hS; refine Ac ?_) | (refine Cv Aa Ab hS (hf _) ?_; clear hS; intro w hS; refine Ac ?_) | (refine Cv Aa Ab hS (hts _ (hkv.below hS.below)) ?_; clear hS; intro w hS; refine Ac ?_) | (refine Stp.go Aa (by rfl) (by rfl) (r_neH hB (by rfl) (by rfl) (by rfl) (by kernel_rfl)) ?_; refine Ac ?_) | (refine Stp.go Aa (by rfl) (by rfl) (r_built (by rfl) (by rfl) (hd_built 3)) ?_; refine Ac ?_) | (refine Stp.go Aa (by rfl) (by rfl) (r_eqH hX (by rfl) (by rfl) (by rfl) (by kernel_rfl)) ?_; refine Ac ?_) | (refine Stp.go Aa (by rfl) (by rfl) (r_eqBB (by rfl) (by rfl) (by rfl) (by exact Try.underlying4)) ?_; refine Ac ?_) | (refine Stp.go Aa (by rfl) (by rfl) (r_eqAB (by rfl) (by rfl) (by rfl) (by kernel_rfl) (by kernel_rfl) lY lY hq) ?_; refine Ac ?_) | (refine Ar Aa Ab hS ?_ (hv := hdV_ones _ _); clear hS; intro w hS; refine Ac ?_) | ((first | refine Bn Aa ?_ | refine Bq Aa ?_ | refine Aw Aa ?_ | refine Bi Aa Ab hS ?_ | refine Bg Aa Ab hS ?_ | refine Ag Aa ?_ | refine Af Aa ?_ | refine Cc Aa ?_ | refine Cb Aa ?_ | refine Ao Aa ?_ | refine Bz Aa ?_ | refine Bx Aa ?_ | refine Bu Aa ?_ | refine Bv Aa ?_ | refine Ca Aa ?_ | refine Bl Aa ?_ | refine Bh Aa ?_ | refine Bw Aa (fun hc => ?_) (fun hc => ?_) | refine Bb Aa ?_ | refine Ap Aa ?_ | refine Bc Aa ?_ | refine Aq Aa ?_ | refine Ah Aa ?_ | refine Av Aa ?_ | refine Ay Aa ?_ | refine Aj Aa ?_ | refine Al Aa ?_ | refine Ae Aa ?_ | refine Ai Aa ?_ | refine Bo Aa ?_ | refine Br Aa ?_ | refine Bt Aa ?_ | refine Bk Aa ?_ | refine Ax Aa ?_ | refine Ak Aa ?_ | refine Am Aa ?_ | refine Be Aa ?_ | refine Bd Aa ?_) <;> refine Ac ?_) | ((first | refine Bf Aa Ab hS ?_ | refine Bs Aa Ab hS ?_ | refine Ba Aa Ab hS ?_ | refine Bj Aa Ab hS ?_ | refine Bp Aa Ab hS ?_); clear hS; intro b w hS; refine Ac ?_) | ((first | refine Az Aa Ab hS ?_ | refine Ar Aa Ab hS ?_ | refine Au Aa Ab hS ?_); clear hS; intro w hS; refine Ac ?_)) | ((fail_if_success (with_reducible refine Ad ?_)); first | go_step | go_step3 | rw [Exit.noGoto_normal] | rw [Exit.noGoto_ret] | rw [Exit.noGoto_exit]))
    go_ret
    exact ⟨rfl, hS.below⟩
end Go.Proofs.Ytcjncidahjneaaa

namespace Go.Proofs.Ytcjncidahjneaaa
open Go.ChangeShapes Go.WideShapes Go.ChangeAt Go.RowKit

theorem Try.own : ownKnob Try.prog.godebug = none := by kernel_rfl
theorem Try.laidOut : laidOutB Try.prog = true := by kernel_rfl
theorem cells_30 : Try.prog.cellsOf 30 = 128 := by kernel_rfl

set_option maxRecDepth 100000 in
theorem vaultHeads_lifted (os : Os) (started : os.Started) (H : Type) (enc : TypeId × Value → H) :
    ReturnsInHanded {} Try.checked os 3 .any (Rows.vaultHeadsSpec.pre6 enc Try.prog Try.f3 Rows.vaultHeadsRow.domain false) (Rows.vaultHeadsSpec.post enc Try.prog Try.f3 false true false false) := by
  refine law_lift (C := Try.checked) Try.own started (by kernel_rfl) Try.func3
    (ChangeSpec.witness6 (enc := enc) (C := Try.checked) false ⟨#[], #[.slice none 0 0, .agg #[.int .i64 0, .int .u8 0, .int .u8 0, .int .u8 0, .int .u8 0, .int .u8 0, .int .u8 0, .int .u8 0, .int .u8 0, .int .u8 0, .int .u8 0, .int .u8 0, .int .u8 0, .int .u8 0, .int .u8 0, .int .u8 0, .int .u8 0, .int .u8 0, .int .u8 0, .int .u8 0, .int .u8 0, .int .u8 0, .int .u8 0, .int .u8 0, .int .u8 0, .int .u8 0, .int .u8 0, .int .u8 0, .int .u8 0, .int .u8 0, .int .u8 0, .int .u8 0, .int .u8 0, .int .u8 0, .int .u8 0, .int .u8 0, .int .u8 0, .int .u8 0, .int .u8 0, .int .u8 0, .int .u8 0, .int .u8 0, .int .u8 0, .int .u8 0, .int .u8 0, .int .u8 0, .int .u8 0, .int .u8 0, .int .u8 0, .int .u8 0, .int .u8 0, .int .u8 0, .int .u8 0, .int .u8 0, .int .u8 0, .int .u8 0, .int .u8 0, .int .u8 0, .int .u8 0, .int .u8 0, .int .u8 0, .int .u8 0, .int .u8 0, .int .u8 0, .int .u8 0, .int .u8 0, .int .u8 0, .int .u8 0, .int .u8 0, .int .u8 0, .int .u8 0, .int .u8 0, .int .u8 0, .int .u8 0, .int .u8 0, .int .u8 0, .int .u8 0, .int .u8 0, .int .u8 0, .int .u8 0, .int .u8 0, .int .u8 0, .int .u8 0, .int .u8 0, .int .u8 0, .int .u8 0, .int .u8 0, .int .u8 0, .int .u8 0], .agg #[.int .u8 0, .int .u8 0, .int .u8 0, .int .u8 0, .int .u8 0, .int .u8 0, .int .u8 0, .int .u8 0, .int .u8 0, .int .u8 0, .int .u8 0, .int .u8 0, .int .u8 0, .int .u8 0, .int .u8 0, .int .u8 0, .int .u8 0, .int .u8 0, .int .u8 0, .int .u8 0, .int .u8 0, .int .u8 0, .int .u8 0, .int .u8 0, .int .u8 0, .int .u8 0, .int .u8 0, .int .u8 0, .int .u8 0, .int .u8 0, .int .u8 0, .int .u8 0, .int .u8 0, .int .u8 0, .int .u8 0, .int .u8 0, .int .u8 0, .int .u8 0, .int .u8 0, .int .u8 0, .int .u8 0, .int .u8 0, .int .u8 0, .int .u8 0, .int .u8 0, .int .u8 0, .int .u8 0, .int .u8 0, .int .u8 0, .int .u8 0, .int .u8 0, .int .u8 0, .int .u8 0, .int .u8 0, .int .u8 0, .int .u8 0, .int .u8 0, .int .u8 0, .int .u8 0, .int .u8 0, .int .u8 0, .int .u8 0, .int .u8 0, .int .u8 0, .int .u8 0, .int .u8 0, .int .u8 0, .int .u8 0, .int .u8 0, .int .u8 0, .int .u8 0, .int .u8 0, .int .u8 0, .int .u8 0, .int .u8 0, .int .u8 0, .int .u8 0, .int .u8 0, .int .u8 0, .int .u8 0, .int .u8 0, .int .u8 0, .int .u8 0, .int .u8 0, .int .u8 0, .int .u8 0, .int .u8 0, .int .u8 0, .int .u8 0, .int .u8 0, .int .u8 0, .int .u8 0, .int .u8 0, .int .u8 0, .int .u8 0, .int .u8 0, .int .u8 0, .int .u8 0, .int .u8 0, .int .u8 0, .int .u8 0, .int .u8 0, .int .u8 0, .int .u8 0, .int .u8 0, .int .u8 0, .int .u8 0, .int .u8 0, .int .u8 0, .int .u8 0, .int .u8 0, .int .u8 0, .int .u8 0, .int .u8 0, .int .u8 0, .int .u8 0, .int .u8 0, .int .u8 0, .int .u8 0, .int .u8 0, .int .u8 0, .int .u8 0, .int .u8 0, .int .u8 0, .int .u8 0, .int .u8 0, .int .u8 0, .int .u8 0]], []⟩ 8 (by kernel_rfl) (by kernel_rfl) (by kernel_rfl) (by kernel_rfl))
    rfl (by kernel_rfl) Try.underlying4 (fun ds h => by match ds, h with | [a, b, c], _ => exact ⟨rfl, rfl, rfl⟩) Try.laidOut (by kernel_rfl) ?_
  intro W base args ds p hval0 hA0 hlt hsz0
  have hval : ∀ (j : Nat) t v, Try.f3.params[j]? = some t → args[j]? = some v → Value.okWide Try.prog W .any base t v := hval0
  have hA : DataW.TrodAll enc Try.prog W 0 (fun _ => true) true Try.f3.params.toList args.toList ds p := hA0
  have hsz : (DataW.weightsEach Try.prog Try.f3.params.toList ds).all (· ≤ reachBytes) = true := hsz0
  rw [Try.params3] at hA hval hsz
  obtain ⟨v0, v1, v2, d0, d1, d2, p0, p1, p2, rfl, rfl, rfl, h0, h1, h2⟩ := trodAll_three hA
  obtain ⟨x0, lx0, mx0⟩ := open_bytes Try.underlying22 Try.underlying5 (by kernel_rfl) (okWide_slice Try.underlying22 (hval 0 _ v0 rfl rfl)) h0
  obtain ⟨x2, lx2, rfl⟩ := open_barr isBytes_30 cells_30 (by intro e he; rw [show Try.prog.underlying 30 = _ from Try.underlying30] at he; cases he; kernel_rfl) (hval 2 _ v2 rfl rfl) h2
  obtain ⟨n, B, hB, hn, rfl⟩ := open_head (hval 1 _ v1 rfl rfl) h1
  exact vaultHeads_any x0 n B x2 hB hn lx2 v0 W lx0

theorem vaultHeads_holds : Rows.VaultHeadsSaid :=
  OpenClaim.holds_of_wide 3 Try.f3 rfl rfl rfl rfl rfl rfl rfl ⟨rfl, rfl, rfl, rfl, rfl⟩ rfl rfl rfl rfl rfl (by kernel_rfl) Try.func3 (by kernel_rfl)
    (of_decide_eq_true (by kernel_rfl)) (by unfold Func.isWrapper; rw [if_neg (by decide +kernel)]; exact ⟨rfl, rfl⟩)
    (fun os started H enc _ => vaultHeads_lifted os started H enc)

end Go.Proofs.Ytcjncidahjneaaa
