/-
  Laws that the claims of this seat use, of several texts in one: RdX, Rd6, Rd7. No condition of their own.
-/
import Derived.Laws.StructEq
import Derived.Test.YtcjncidahjneaaaJI1

namespace Go.Proofs.Ytcjncidahjneaaa
open Go.ChangeShapes Go.WideShapes Go.ChangeAt Go.RowKit
attribute [local irreducible] wpList wpListIn Oper.quietAt wpM
instance instRdX_1 : AtT Try.prog 30 1 ((zs 128).map bv) := ⟨by kernel_rfl⟩
theorem pt_partI {P : Program} {t : TypeId} {k : IntKind} (hu : P.underlying t = some (.int k)) (n : Int) (B : List UInt8) (w : World) : (part t (hdV n B) 0).run P w = .ok (.int .i64 n) w := by
  have hagg : (isAgg t).run P w = .ok false w := by unfold isAgg; simp [run_underlying hu]
  simp [part, Sem.run_bind, hagg, hdV]
theorem pt_partB {P : Program} {t m e q : Nat} (hu : P.underlying t = some (.array q e)) (hs : (P.info? t).map (·.size) = some m) (n : Int) (B : List UInt8) (o : Nat) (w : World) : (part t (hdV n B) (1 + o)).run P w = .ok (.agg (bvs ((B.drop o).take m))) w := by
  have hagg : (isAgg t).run P w = .ok true w := by unfold isAgg; simp [run_underlying hu]
  have hex : (hdV n B).extract (1 + o) (1 + o + m) = bvs ((B.drop o).take m) := by
    apply Array.ext'
    unfold bvs hdV
    simp only [List.extract_toArray, List.extract_eq_take_drop]
    rw [show 1 + o = o + 1 by omega, List.drop_succ_cons, List.map_take, List.map_drop, show o + 1 + m - (o + 1) = m by omega]
  unfold part
  simp only [Sem.run_bind, hagg, Result.andThen_ok, if_true, run_sizeOf hs, hex]
  rfl
end Go.Proofs.Ytcjncidahjneaaa

namespace Go.Proofs.Ytcjncidahjneaaa
open Go.ChangeShapes Go.WideShapes Go.ChangeAt Go.RowKit
attribute [local irreducible] wpList wpListIn Oper.quietAt wpM
/-- Bytes again and again, a sector long. -/
def cellN (l : List UInt8) : List UInt8 := (List.range 128).map fun i => if l = [] then 0 else l.getD (i % l.length) 0
theorem cellN_len (l : List UInt8) : (cellN l).length = 128 := by unfold cellN; rw [List.length_map, List.length_range]
theorem cellN_get (l : List UInt8) (h : l ≠ []) {k : Nat} (hk : k < 128) : (cellN l).getD k 0 = l.getD (k % l.length) 0 := by
  unfold cellN
  rw [List.getD_eq_getElem?_getD, List.getElem?_map, List.getElem?_range hk]
  simp [h]
theorem cellN_nil : cellN [] = zs 128 := by
  unfold cellN zs
  apply List.ext_getElem?
  intro i
  rw [List.getElem?_map]
  by_cases hi : i < 128
  · rw [List.getElem?_range hi, List.getElem?_replicate, if_pos hi]; rfl
  · rw [List.getElem?_eq_none (by rw [List.length_range]; omega), List.getElem?_replicate, if_neg hi]; rfl
attribute [local irreducible] cellN
set_option maxRecDepth 100000 in
set_option maxHeartbeats 2000000 in
theorem cellN_any (l : List UInt8) (v : Value) (w0 : World) (hv : BytesAt w0 v l) :
    Calls Try.prog 42 #[v] w0 fun e w' => e = .returned (.agg (bvs (cellN l))) ∧ Below w0.heap.size w0 w' := by
  obtain ⟨p, c, rfl, hc⟩ := hv.slice
  have hS := St.start w0
  have sZ : csz (bvs (zs 128)) = 128 := by rw [Bg, zs_len]
  have lD := cellN_len l
  have hDg := cellN_get l
  have hD0 : l = [] → cellN l = zs 128 := fun h => by rw [h, cellN_nil]
  obtain ⟨D, hD⟩ : ∃ D, cellN l = D := ⟨_, rfl⟩
  rw [hD] at lD hDg hD0 ⊢
  have e128 : zs (128 - 0) = zs 128 := rfl
  obtain ⟨q, hq⟩ : ∃ q, l.length = q := ⟨_, rfl⟩
  rw [hq] at hc hDg ⊢
  go_enter Try.func42, Try.ntmps42
  by_cases h0 : q = 0
  · obtain rfl := hD0 (List.length_eq_zero_iff.1 (by omega))
    subst h0
    repeat' (first | ((with_reducible refine Ac ?_); first | ((first | refine Ai Aa ?_ | refine Al Aa ?_ | refine Af Aa ?_ | refine Av Aa Ab hS ?_ | refine Ba Aa Ab hS ?_ | refine Ag Aa ?_ | refine Ae Aa ?_ | refine Be Aa ?_ | refine Bd Aa ?_ | refine Cq Aa ?_ | refine Ak Aa ?_ | refine Aj Aa ?_ | refine Aw Aa (fun hc => ?_) (fun hc => ?_) | refine Cp Aa ?_ | refine Ar Aa ?_) <;> refine Ad ?_) | ((first | refine Ay Aa Ab hS ?_ | refine Ao Aa Ab hS ?_ | refine As Aa Ab hS ?_); clear hS; intro b w hS; refine Ad ?_) | ((first | refine Br Aa Ab hS ?_ | refine Ap Aa Ab hS ?_ | refine Aq Aa Ab hS ?_); clear hS; intro w hS; refine Ad ?_)) | ((fail_if_success (with_reducible refine Ac ?_)); first | go_step | go_step3 | rw [Exit.noGoto_normal] | rw [Exit.noGoto_ret] | rw [Exit.noGoto_exit]))
    rename_i bR y0 y1 KK hKK
    go_loopw [4, 6] (fun u4 u6 wr => ∃ k : Nat, k ≤ 128 ∧ u6 = .int .i64 (k : Int) ∧ St w0 wr [(b, bvs (zs 128), 30), (bR, bvs (zs 128), 30)]) (fun _ u6 _ => 128 - (intOf u6).toNat)
    case atStart => exact ⟨0, by omega, rfl, hS⟩
    case round =>
      clear hS
      obtain ⟨k, hk, rfl, hS⟩ := hrel
      by_cases hlt : k < 128
      · repeat' (first | ((with_reducible refine Ac ?_); first | ((first | refine Ai Aa ?_ | refine Al Aa ?_ | refine Af Aa ?_ | refine Av Aa Ab hS ?_ | refine Ba Aa Ab hS ?_ | refine Ag Aa ?_ | refine Ae Aa ?_ | refine Be Aa ?_ | refine Bd Aa ?_ | refine Cq Aa ?_ | refine Ak Aa ?_ | refine Aj Aa ?_ | refine Aw Aa (fun hc => ?_) (fun hc => ?_) | refine Cp Aa ?_ | refine Ar Aa ?_) <;> refine Ad ?_) | ((first | refine Ay Aa Ab hS ?_ | refine Ao Aa Ab hS ?_ | refine As Aa Ab hS ?_); clear hS; intro b w hS; refine Ad ?_) | ((first | refine Br Aa Ab hS ?_ | refine Ap Aa Ab hS ?_ | refine Aq Aa Ab hS ?_); clear hS; intro w hS; refine Ad ?_)) | ((fail_if_success (with_reducible refine Ac ?_)); first | go_step | go_step3 | rw [Exit.noGoto_normal] | rw [Exit.noGoto_ret] | rw [Exit.noGoto_exit]))
        go_roundw
        case rel => exact ⟨k + 1, by omega, by push_cast; rfl, hS⟩
        case measure => first | (simp [intOf]; done) | (simp [intOf]; omega)
      · obtain rfl : k = 128 := by omega
        repeat' (first | ((with_reducible refine Ac ?_); first | ((first | refine Ai Aa ?_ | refine Al Aa ?_ | refine Af Aa ?_ | refine Av Aa Ab hS ?_ | refine Ba Aa Ab hS ?_ | refine Ag Aa ?_ | refine Ae Aa ?_ | refine Be Aa ?_ | refine Bd Aa ?_ | refine Cq Aa ?_ | refine Ak Aa ?_ | refine Aj Aa ?_ | refine Aw Aa (fun hc => ?_) (fun hc => ?_) | refine Cp Aa ?_ | refine Ar Aa ?_) <;> refine Ad ?_) | ((first | refine Ay Aa Ab hS ?_ | refine Ao Aa Ab hS ?_ | refine As Aa Ab hS ?_); clear hS; intro b w hS; refine Ad ?_) | ((first | refine Br Aa Ab hS ?_ | refine Ap Aa Ab hS ?_ | refine Aq Aa Ab hS ?_); clear hS; intro w hS; refine Ad ?_)) | ((fail_if_success (with_reducible refine Ac ?_)); first | go_step | go_step3 | rw [Exit.noGoto_normal] | rw [Exit.noGoto_ret] | rw [Exit.noGoto_exit]))
        exact post_cell (n := 128) Try.results42 (by kernel_rfl) (.inl rfl) _ _ _ _ rfl rfl (hS.blk 1 rfl) (by rw [← csz_is]; exact sZ) ⟨rfl, hS.below⟩
  · have hne : l ≠ [] := fun e => h0 (by rw [← hq, e]; rfl)
    obtain ⟨tb, o, rfl, _⟩ := hv.cell (List.getElem?_eq_getElem (i := 0) (by omega))
    obtain ⟨tcs, tty, tfr, htb, hcell⟩ := bytes_blk hv (by omega)
    repeat' (first | ((with_reducible refine Ac ?_); first | ((first | refine Ai Aa ?_ | refine Al Aa ?_ | refine Af Aa ?_ | refine Av Aa Ab hS ?_ | refine Ba Aa Ab hS ?_ | refine Ag Aa ?_ | refine Ae Aa ?_ | refine Be Aa ?_ | refine Bd Aa ?_ | refine Cq Aa ?_ | refine Ak Aa ?_ | refine Aj Aa ?_ | refine Aw Aa (fun hc => ?_) (fun hc => ?_) | refine Cp Aa ?_ | refine Ar Aa ?_) <;> refine Ad ?_) | ((first | refine Ay Aa Ab hS ?_ | refine Ao Aa Ab hS ?_ | refine As Aa Ab hS ?_); clear hS; intro b w hS; refine Ad ?_) | ((first | refine Br Aa Ab hS ?_ | refine Ap Aa Ab hS ?_ | refine Aq Aa Ab hS ?_); clear hS; intro w hS; refine Ad ?_)) | ((fail_if_success (with_reducible refine Ac ?_)); first | go_step | go_step3 | rw [Exit.noGoto_normal] | rw [Exit.noGoto_ret] | rw [Exit.noGoto_exit]))
    rename_i bR y0 y1 KK hKK
    go_loopw [4, 6] (fun u4 u6 wr => ∃ k : Nat, k ≤ 128 ∧ u6 = .int .i64 (k : Int) ∧ St w0 wr [(b, bvs (D.take k ++ zs (128 - k)), 30), (bR, bvs (zs 128), 30)]) (fun _ u6 _ => 128 - (intOf u6).toNat)
    case atStart => exact ⟨0, by omega, rfl, hS⟩
    case round =>
      clear hS
      obtain ⟨k, hk, rfl, hS⟩ := hrel
      have s0 : (D.take k ++ zs (128 - k)).length = 128 := by rw [List.length_append, List.length_take, zs_len]; omega
      by_cases hlt : k < 128
      · have hm : k % q < q := Nat.mod_lt _ (by omega)
        have hck := hcell (k % q) (by omega)
        rw [← hDg hne hlt] at hck
        have hset := bvs_fill (l := D) (i := k) (n := 128) (by omega) lD
        have hrm : (k : Int) % (q : Int) = ((k % q : Nat) : Int) := (Int.natCast_emod k q).symm
        obtain ⟨y, hy⟩ : ∃ y, D.getD k 0 = y := ⟨_, rfl⟩
        rw [hy] at hck hset
        obtain ⟨j, hj⟩ : ∃ j, k % q = j := ⟨_, rfl⟩
        rw [hj] at hm hck hrm
        obtain ⟨X, hX⟩ : ∃ X, D.take k ++ zs (128 - k) = X := ⟨_, rfl⟩
        obtain ⟨Y, hY⟩ : ∃ Y, D.take (k + 1) ++ zs (128 - (k + 1)) = Y := ⟨_, rfl⟩
        rw [hX] at hS s0 hset
        rw [hY] at hset
        repeat' (first | ((with_reducible refine Ac ?_); first | (refine Stp.go Aa (by rfl) (by rfl) (r_rem (by rfl) (by rfl) (by rfl) (by omega) hrm) ?_; refine Ad ?_) | ((first | refine Ai Aa ?_ | refine Al Aa ?_ | refine Af Aa ?_ | refine Av Aa Ab hS ?_ (hv := by first | rfl | exact Bi | (rw [Array.getElem?_toList]; exact hck)) | refine Bs Aa (by first | exact ((hS).far htb).1) ?_ (hv := by first | rfl | exact Bi | (rw [Array.getElem?_toList]; exact hck)) | refine Ba Aa Ab hS ?_ (hv := by first | exact Bo _ _ (by (try simp only [Bn, Bg, Bm, List.length_append, List.length_set, zs_len, List.length_take, List.length_drop, List.length_cons, List.length_nil]); first | done | rfl | omega) | (exact hck) | rfl) | refine Da Aa (by first | exact ((hS).far htb).1) ?_ (hv := by first | exact Bo _ _ (by (try simp only [Bn, Bg, Bm, List.length_append, List.length_set, zs_len, List.length_take, List.length_drop, List.length_cons, List.length_nil]); first | done | rfl | omega) | (exact hck) | rfl) | refine Ag Aa ?_ | refine Ae Aa ?_ | refine Be Aa ?_ | refine Bd Aa ?_ | refine Cq Aa ?_ | refine Ak Aa ?_ | refine Aj Aa ?_ | refine Aw Aa (fun hc => ?_) (fun hc => ?_) | refine Cp Aa ?_ | refine Ar Aa ?_) <;> refine Ad ?_) | ((first | refine Ay Aa Ab hS ?_ | refine Ao Aa Ab hS ?_ | refine As Aa Ab hS ?_); clear hS; intro b w hS; refine Ad ?_) | ((first | refine Br Aa Ab hS ?_ | refine Ap Aa Ab hS ?_ | refine Aq Aa Ab hS ?_); clear hS; intro w hS; refine Ad ?_)) | ((fail_if_success (with_reducible refine Ac ?_)); first | go_step | go_step3 | rw [Exit.noGoto_normal] | rw [Exit.noGoto_ret] | rw [Exit.noGoto_exit]))
        rw [hset] at hS
        go_roundw
        case rel => exact ⟨k + 1, by omega, by push_cast; rfl, by rw [hY]; exact hS⟩
        case measure => first | (simp [intOf]; done) | (simp [intOf]; omega)
      · obtain rfl : k = 128 := by omega
        have hD2 : D.take 128 ++ zs (128 - 128) = D := by rw [List.take_of_length_le (by omega), Nat.sub_self, List.eq_nil_of_length_eq_zero (zs_len 0), List.append_nil]
        rw [hD2] at hS
        have s1 : csz (bvs D) = 128 := by rw [Bg, lD]
        repeat' (first | ((with_reducible refine Ac ?_); first | ((first | refine Ai Aa ?_ | refine Al Aa ?_ | refine Af Aa ?_ | refine Av Aa Ab hS ?_ | refine Ba Aa Ab hS ?_ | refine Ag Aa ?_ | refine Ae Aa ?_ | refine Be Aa ?_ | refine Bd Aa ?_ | refine Cq Aa ?_ | refine Ak Aa ?_ | refine Aj Aa ?_ | refine Aw Aa (fun hc => ?_) (fun hc => ?_) | refine Cp Aa ?_ | refine Ar Aa ?_) <;> refine Ad ?_) | ((first | refine Ay Aa Ab hS ?_ | refine Ao Aa Ab hS ?_ | refine As Aa Ab hS ?_); clear hS; intro b w hS; refine Ad ?_) | ((first | refine Br Aa Ab hS ?_ | refine Ap Aa Ab hS ?_ | refine Aq Aa Ab hS ?_); clear hS; intro w hS; refine Ad ?_)) | ((fail_if_success (with_reducible refine Ac ?_)); first | go_step | go_step3 | rw [Exit.noGoto_normal] | rw [Exit.noGoto_ret] | rw [Exit.noGoto_exit]))
        exact post_cell (n := 128) Try.results42 (by kernel_rfl) (.inl rfl) _ _ _ _ rfl rfl (hS.blk 1 rfl) (by rw [← csz_is]; exact s1) ⟨rfl, hS.below⟩
end Go.Proofs.Ytcjncidahjneaaa

namespace Go.Proofs.Ytcjncidahjneaaa
open Go.ChangeShapes Go.WideShapes Go.ChangeAt Go.RowKit
attribute [local irreducible] wpList wpListIn Oper.quietAt wpM
end Go.Proofs.Ytcjncidahjneaaa
