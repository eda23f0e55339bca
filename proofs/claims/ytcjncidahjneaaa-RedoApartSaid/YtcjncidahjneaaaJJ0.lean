/-
  Laws that the claims of this seat use, of several texts in one: RdX, Rd6, Rd7. No condition of their own.
-/
import Derived.Laws.StructEq
import Derived.Test.YtcjncidahjneaaaJI1

namespace Go.Proofs.Ytcjncidahjneaaa
open Go.ChangeShapes Go.WideShapes Go.ChangeAt Go.RowKit
attribute [local irreducible] wpList wpListIn Oper.quietAt wpM
instance instRdX_1 : AtT Try.prog 30 1 ((zs 128).map bv) := ⟨by kernel_rfl⟩
theorem pt_partI {P : Program} {t : TypeId} {k : IntKind} (hu : P.underlying t = some (.int k)) (n : Int) (B : List UInt8) (w : World) : (part t (hdV n B) 0).run P w = .ok (.int .i64 n) w := by
  have hagg : (isAgg t).run P w = .ok false w := by unfold isAgg; simp [run_underlying hu]
  simp [part, Sem.run_bind, hagg, hdV]
theorem pt_partB {P : Program} {t m e q : Nat} (hu : P.underlying t = some (.array q e)) (hs : (P.info? t).map (·.size) = some m) (n : Int) (B : List UInt8) (o : Nat) (w : World) : (part t (hdV n B) (1 + o)).run P w = .ok (.agg (bvs ((B.drop o).take m))) w := by
  have hagg : (isAgg t).run P w = .ok true w := by unfold isAgg; simp [run_underlying hu]
  have hex : (hdV n B).extract (1 + o) (1 + o + m) = bvs ((B.drop o).take m) := by
    apply Array.ext'
    unfold bvs hdV
    simp only [List.extract_toArray, List.extract_eq_take_drop]
    rw [show 1 + o = o + 1 by omega, List.drop_succ_cons, List.map_take, List.map_drop, show o + 1 + m - (o + 1) = m by omega]
  unfold part
  simp only [Sem.run_bind, hagg, Result.andThen_ok, if_true, run_sizeOf hs, hex]
  rfl
theorem r_neCel {P : Program} {o : Oper} {a : Act} {w : World} {t t' n : Nat} {x y : Operand} {l m : List UInt8} {q : Bool} (hop : o.op = .binOp .neq t x y t') (hx : evO a x = some (.agg (bvs l))) (hy : evO a y = some (.agg (bvs m))) (hb : isBytes P t n = true) (hg : P.eqGuardType P.depth t = false) (hl : l.length = n) (hm : m.length = n) (hq : (!(l == m)) = q) : (execOp a.eval o).run P w = .ok (.value (.bool q)) w := by
  unfold execOp; rw [hop]; subst hq
  simp only [Bb hx, Bb hy, Sem.run_bind, run_eqGuard_agg w .neq t x y _ _ hg, Result.andThen_ok, run_neq_struct, run_equalIn_bytes hb l m (by rw [Bg, hl]) (by rw [Bg, hm]) w]
  rfl
theorem getD_takeR {l : List UInt8} {n i : Nat} (h : i < n) : (l.take n).getD i 0 = l.getD i 0 := by
  rw [List.getD_eq_getElem?_getD, List.getElem?_take, if_pos h, List.getD_eq_getElem?_getD]
theorem is_form (w0 : World) : Calls Try.prog 14 #[.iface 40 (.int .i64 2), .int .i64 2] w0 fun e w' => e = .returned (.bool true) ∧ Below w0.heap.size w0 w' := by
  have hS := St.start w0
  go_enter Try.func14, Try.ntmps14
  repeat' (first | ((with_reducible refine Ac ?_); first | ((first | refine Ai Aa ?_ | refine Al Aa ?_ | refine Af Aa ?_ | refine Ak Aa ?_ | refine Aj Aa ?_ | refine Aw Aa (fun hc => ?_) (fun hc => ?_)) <;> refine Ad ?_)) | ((fail_if_success (with_reducible refine Ac ?_)); first | go_step | go_step3 | rw [Exit.noGoto_normal] | rw [Exit.noGoto_ret] | rw [Exit.noGoto_exit]))
  refine s_call Aa (by rfl) (by rfl) (by rfl) (by rfl) (by rfl) (by infer_instance) (num_err 2 rfl _) ?_
  rintro e w' ⟨rfl, rfl⟩
  refine ⟨_, rfl, ?_⟩
  refine Ad ?_
  repeat' (first | ((with_reducible refine Ac ?_); first | ((first | refine Ai Aa ?_ | refine Al Aa ?_ | refine Af Aa ?_ | refine Ak Aa ?_ | refine Aj Aa ?_ | refine Aw Aa (fun hc => ?_) (fun hc => ?_)) <;> refine Ad ?_)) | ((fail_if_success (with_reducible refine Ac ?_)); first | go_step | go_step3 | rw [Exit.noGoto_normal] | rw [Exit.noGoto_ret] | rw [Exit.noGoto_exit]))
  go_ret
  exact ⟨rfl, hS.below⟩
end Go.Proofs.Ytcjncidahjneaaa

namespace Go.Proofs.Ytcjncidahjneaaa
open Go.ChangeShapes Go.WideShapes Go.ChangeAt Go.RowKit
attribute [local irreducible] wpList wpListIn Oper.quietAt wpM
set_option maxRecDepth 100000 in
set_option maxHeartbeats 2000000 in
theorem rdCell_any (l : List UInt8) (hl : l.length ≤ 128) (v : Value) (w0 : World) (hv : BytesAt w0 v l) :
    Calls Try.prog 44 #[v] w0 fun e w' => e = .returned (.agg (bvs (l ++ zs (128 - l.length)))) ∧ Below w0.heap.size w0 w' := by
  obtain ⟨p, c, rfl, hc⟩ := hv.slice
  have hS := St.start w0
  have sZ : csz (bvs (zs 128)) = 128 := by rw [Bg, zs_len]
  obtain ⟨D, hD⟩ : ∃ D, l ++ zs (128 - l.length) = D := ⟨_, rfl⟩
  have lD : D.length = 128 := by rw [← hD, List.length_append, zs_len]; omega
  have hDt : D.take l.length = l := by rw [← hD, List.take_left]
  have hDg : ∀ k, k < l.length → D.getD k 0 = l.getD k 0 := fun k hk => by
    rw [← hD, List.getD_eq_getElem?_getD, List.getD_eq_getElem?_getD, List.getElem?_append_left hk]
  rw [hD]
  obtain ⟨q, hq⟩ : ∃ q, l.length = q := ⟨_, rfl⟩
  rw [hq] at hl hc hDt hDg ⊢
  go_enter Try.func44, Try.ntmps44
  repeat' (first | ((with_reducible refine Ac ?_); first | ((first | refine Ai Aa ?_ | refine Al Aa ?_ | refine Af Aa ?_ | refine Av Aa Ab hS ?_ | refine Ba Aa Ab hS ?_ | refine Ag Aa ?_ | refine Ae Aa ?_ | refine Be Aa ?_ | refine Bd Aa ?_ | refine Ak Aa ?_ | refine Aj Aa ?_ | refine Aw Aa (fun hc => ?_) (fun hc => ?_) | refine Bk Aa ?_) <;> refine Ad ?_) | ((first | refine Ay Aa Ab hS ?_); clear hS; intro b w hS; refine Ad ?_) | ((first | refine Br Aa Ab hS ?_ | refine Ap Aa Ab hS ?_ | refine Aq Aa Ab hS ?_); clear hS; intro w hS; refine Ad ?_)) | ((fail_if_success (with_reducible refine Ac ?_)); first | go_step | go_step3 | rw [Exit.noGoto_normal] | rw [Exit.noGoto_ret] | rw [Exit.noGoto_exit]))
  rename_i bR y0 KK hKK
  go_loopw [4] (fun u4 wr => ∃ k : Nat, k ≤ q ∧ u4 = .int .i64 (k : Int) ∧ St w0 wr [(b, bvs (D.take k ++ zs (128 - k)), 30), (bR, bvs (zs 128), 30)]) (fun u4 _ => q - (intOf u4).toNat)
  case atStart => exact ⟨0, by omega, rfl, hS⟩
  case round =>
    clear hS
    obtain ⟨k, hk, rfl, hS⟩ := hrel
    have s0 : (D.take k ++ zs (128 - k)).length = 128 := by rw [List.length_append, List.length_take, zs_len]; omega
    have s1 : csz (bvs (D.take k ++ zs (128 - k))) = 128 := by rw [Bg, s0]
    by_cases hlt : k < q
    · obtain ⟨tb, o, rfl, _⟩ := hv.cell (List.getElem?_eq_getElem (i := k) (by omega))
      obtain ⟨tcs, tty, tfr, htb, hcell⟩ := bytes_blk hv (by omega)
      have hck := hcell k (by omega)
      rw [← hDg k hlt] at hck
      have hset := bvs_fill (l := D) (i := k) (n := 128) (by omega) lD
      obtain ⟨y, hy⟩ : ∃ y, D.getD k 0 = y := ⟨_, rfl⟩
      rw [hy] at hck hset
      obtain ⟨X, hX⟩ : ∃ X, D.take k ++ zs (128 - k) = X := ⟨_, rfl⟩
      obtain ⟨Y, hY⟩ : ∃ Y, D.take (k + 1) ++ zs (128 - (k + 1)) = Y := ⟨_, rfl⟩
      rw [hX] at hS s0 hset
      rw [hY] at hset
      repeat' (first | ((with_reducible refine Ac ?_); first | ((first | refine Ai Aa ?_ | refine Al Aa ?_ | refine Af Aa ?_ | refine Av Aa Ab hS ?_ (hv := by first | rfl | exact Bi | (rw [Array.getElem?_toList]; exact hck)) | refine Bs Aa (by first | exact ((hS).far htb).1) ?_ (hv := by first | rfl | exact Bi | (rw [Array.getElem?_toList]; exact hck)) | refine Ba Aa Ab hS ?_ (hv := by first | exact Bo _ _ (by (try simp only [Bn, Bg, Bm, List.length_append, List.length_set, zs_len, List.length_take, List.length_drop, List.length_cons, List.length_nil]); first | done | rfl | omega) | (exact hck) | rfl) | refine Da Aa (by first | exact ((hS).far htb).1) ?_ (hv := by first | exact Bo _ _ (by (try simp only [Bn, Bg, Bm, List.length_append, List.length_set, zs_len, List.length_take, List.length_drop, List.length_cons, List.length_nil]); first | done | rfl | omega) | (exact hck) | rfl) | refine Ag Aa ?_ | refine Ae Aa ?_ | refine Be Aa ?_ | refine Bd Aa ?_ | refine Ak Aa ?_ | refine Aj Aa ?_ | refine Aw Aa (fun hc => ?_) (fun hc => ?_) | refine Bk Aa ?_) <;> refine Ad ?_) | ((first | refine Ay Aa Ab hS ?_); clear hS; intro b w hS; refine Ad ?_) | ((first | refine Br Aa Ab hS ?_ | refine Ap Aa Ab hS ?_ | refine Aq Aa Ab hS ?_); clear hS; intro w hS; refine Ad ?_)) | ((fail_if_success (with_reducible refine Ac ?_)); first | go_step | go_step3 | rw [Exit.noGoto_normal] | rw [Exit.noGoto_ret] | rw [Exit.noGoto_exit]))
      rw [hset] at hS
      go_roundw
      case rel => exact ⟨k + 1, by omega, by push_cast; rfl, by rw [hY]; exact hS⟩
      case measure => first | (simp [intOf]; done) | (simp [intOf]; omega)
    · obtain rfl : k = q := by omega
      have hfin : l ++ zs (128 - k) = D := by rw [← hq]; exact hD
      rw [hDt, hfin] at hS s1
      repeat' (first | ((with_reducible refine Ac ?_); first | ((first | refine Ai Aa ?_ | refine Al Aa ?_ | refine Af Aa ?_ | refine Av Aa Ab hS ?_ | refine Ba Aa Ab hS ?_ | refine Ag Aa ?_ | refine Ae Aa ?_ | refine Be Aa ?_ | refine Bd Aa ?_ | refine Ak Aa ?_ | refine Aj Aa ?_ | refine Aw Aa (fun hc => ?_) (fun hc => ?_) | refine Bk Aa ?_) <;> refine Ad ?_) | ((first | refine Ay Aa Ab hS ?_); clear hS; intro b w hS; refine Ad ?_) | ((first | refine Br Aa Ab hS ?_ | refine Ap Aa Ab hS ?_ | refine Aq Aa Ab hS ?_); clear hS; intro w hS; refine Ad ?_)) | ((fail_if_success (with_reducible refine Ac ?_)); first | go_step | go_step3 | rw [Exit.noGoto_normal] | rw [Exit.noGoto_ret] | rw [Exit.noGoto_exit]))
      exact post_cell (n := 128) Try.results44 (by kernel_rfl) (.inl rfl) _ _ _ _ rfl rfl (hS.blk 1 rfl) (by rw [← csz_is]; exact s1) ⟨rfl, hS.below⟩
/-- Bytes again and again, a sector long. -/
def cellN (l : List UInt8) : List UInt8 := (List.range 128).map fun i => if l = [] then 0 else l.getD (i % l.length) 0
theorem cellN_len (l : List UInt8) : (cellN l).length = 128 := by unfold cellN; rw [List.length_map, List.length_range]
theorem cellN_get (l : List UInt8) (h : l ≠ []) {k : Nat} (hk : k < 128) : (cellN l).getD k 0 = l.getD (k % l.length) 0 := by
  unfold cellN
  rw [List.getD_eq_getElem?_getD, List.getElem?_map, List.getElem?_range hk]
  simp [h]
theorem cellN_nil : cellN [] = zs 128 := by
  unfold cellN zs
  apply List.ext_getElem?
  intro i
  rw [List.getElem?_map]
  by_cases hi : i < 128
  · rw [List.getElem?_range hi, List.getElem?_replicate, if_pos hi]; rfl
  · rw [List.getElem?_eq_none (by rw [List.length_range]; omega), List.getElem?_replicate, if_neg hi]; rfl
attribute [local irreducible] cellN
set_option maxRecDepth 100000 in
set_option maxHeartbeats 2000000 in
theorem cellN_any (l : List UInt8) (v : Value) (w0 : World) (hv : BytesAt w0 v l) :
    Calls Try.prog 42 #[v] w0 fun e w' => e = .returned (.agg (bvs (cellN l))) ∧ Below w0.heap.size w0 w' := by
  obtain ⟨p, c, rfl, hc⟩ := hv.slice
  have hS := St.start w0
  have sZ : csz (bvs (zs 128)) = 128 := by rw [Bg, zs_len]
  have lD := cellN_len l
  have hDg := cellN_get l
  have hD0 : l = [] → cellN l = zs 128 := fun h => by rw [h, cellN_nil]
  obtain ⟨D, hD⟩ : ∃ D, cellN l = D := ⟨_, rfl⟩
  rw [hD] at lD hDg hD0 ⊢
  have e128 : zs (128 - 0) = zs 128 := rfl
  obtain ⟨q, hq⟩ : ∃ q, l.length = q := ⟨_, rfl⟩
  rw [hq] at hc hDg ⊢
  go_enter Try.func42, Try.ntmps42
  by_cases h0 : q = 0
  · obtain rfl := hD0 (List.length_eq_zero_iff.1 (by omega))
    subst h0
    repeat' (first | ((with_reducible refine Ac ?_); first | ((first | refine Ai Aa ?_ | refine Al Aa ?_ | refine Af Aa ?_ | refine Av Aa Ab hS ?_ | refine Ba Aa Ab hS ?_ | refine Ag Aa ?_ | refine Ae Aa ?_ | refine Be Aa ?_ | refine Bd Aa ?_ | refine Cq Aa ?_ | refine Ak Aa ?_ | refine Aj Aa ?_ | refine Aw Aa (fun hc => ?_) (fun hc => ?_) | refine Cp Aa ?_ | refine Ar Aa ?_) <;> refine Ad ?_) | ((first | refine Ay Aa Ab hS ?_ | refine Ao Aa Ab hS ?_ | refine As Aa Ab hS ?_); clear hS; intro b w hS; refine Ad ?_) | ((first | refine Br Aa Ab hS ?_ | refine Ap Aa Ab hS ?_ | refine Aq Aa Ab hS ?_); clear hS; intro w hS; refine Ad ?_)) | ((fail_if_success (with_reducible refine Ac ?_)); first | go_step | go_step3 | rw [Exit.noGoto_normal] | rw [Exit.noGoto_ret] | rw [Exit.noGoto_exit]))
    rename_i bR y0 y1 KK hKK
    go_loopw [4, 6] (fun u4 u6 wr => ∃ k : Nat, k ≤ 128 ∧ u6 = .int .i64 (k : Int) ∧ St w0 wr [(b, bvs (zs 128), 30), (bR, bvs (zs 128), 30)]) (fun _ u6 _ => 128 - (intOf u6).toNat)
    case atStart => exact ⟨0, by omega, rfl, hS⟩
    case round =>
      clear hS
      obtain ⟨k, hk, rfl, hS⟩ := hrel
      by_cases hlt : k < 128
      · repeat' (first | ((with_reducible refine Ac ?_); first | ((first | refine Ai Aa ?_ | refine Al Aa ?_ | refine Af Aa ?_ | refine Av Aa Ab hS ?_ | refine Ba Aa Ab hS ?_ | refine Ag Aa ?_ | refine Ae Aa ?_ | refine Be Aa ?_ | refine Bd Aa ?_ | refine Cq Aa ?_ | refine Ak Aa ?_ | refine Aj Aa ?_ | refine Aw Aa (fun hc => ?_) (fun hc => ?_) | refine Cp Aa ?_ | refine Ar Aa ?_) <;> refine Ad ?_) | ((first | refine Ay Aa Ab hS ?_ | refine Ao Aa Ab hS ?_ | refine As Aa Ab hS ?_); clear hS; intro b w hS; refine Ad ?_) | ((first | refine Br Aa Ab hS ?_ | refine Ap Aa Ab hS ?_ | refine Aq Aa Ab hS ?_); clear hS; intro w hS; refine Ad ?_)) | ((fail_if_success (with_reducible refine Ac ?_)); first | go_step | go_step3 | rw [Exit.noGoto_normal] | rw [Exit.noGoto_ret] | rw [Exit.noGoto_exit]))
        go_roundw
        case rel => exact ⟨k + 1, by omega, by push_cast; rfl, hS⟩
        case measure => first | (simp [intOf]; done) | (simp [intOf]; omega)
      · obtain rfl : k = 128 := by omega
        repeat' (first | ((with_reducible refine Ac ?_); first | ((first | refine Ai Aa ?_ | refine Al Aa ?_ | refine Af Aa ?_ | refine Av Aa Ab hS ?_ | refine Ba Aa Ab hS ?_ | refine Ag Aa ?_ | refine Ae Aa ?_ | refine Be Aa ?_ | refine Bd Aa ?_ | refine Cq Aa ?_ | refine Ak Aa ?_ | refine Aj Aa ?_ | refine Aw Aa (fun hc => ?_) (fun hc => ?_) | refine Cp Aa ?_ | refine Ar Aa ?_) <;> refine Ad ?_) | ((first | refine Ay Aa Ab hS ?_ | refine Ao Aa Ab hS ?_ | refine As Aa Ab hS ?_); clear hS; intro b w hS; refine Ad ?_) | ((first | refine Br Aa Ab hS ?_ | refine Ap Aa Ab hS ?_ | refine Aq Aa Ab hS ?_); clear hS; intro w hS; refine Ad ?_)) | ((fail_if_success (with_reducible refine Ac ?_)); first | go_step | go_step3 | rw [Exit.noGoto_normal] | rw [Exit.noGoto_ret] | rw [Exit.noGoto_exit]))
        exact post_cell (n := 128) Try.results42 (by kernel_rfl) (.inl rfl) _ _ _ _ rfl rfl (hS.blk 1 rfl) (by rw [← csz_is]; exact sZ) ⟨rfl, hS.below⟩
  · have hne : l ≠ [] := fun e => h0 (by rw [← hq, e]; rfl)
    obtain ⟨tb, o, rfl, _⟩ := hv.cell (List.getElem?_eq_getElem (i := 0) (by omega))
    obtain ⟨tcs, tty, tfr, htb, hcell⟩ := bytes_blk hv (by omega)
    repeat' (first | ((with_reducible refine Ac ?_); first | ((first | refine Ai Aa ?_ | refine Al Aa ?_ | refine Af Aa ?_ | refine Av Aa Ab hS ?_ | refine Ba Aa Ab hS ?_ | refine Ag Aa ?_ | refine Ae Aa ?_ | refine Be Aa ?_ | refine Bd Aa ?_ | refine Cq Aa ?_ | refine Ak Aa ?_ | refine Aj Aa ?_ | refine Aw Aa (fun hc => ?_) (fun hc => ?_) | refine Cp Aa ?_ | refine Ar Aa ?_) <;> refine Ad ?_) | ((first | refine Ay Aa Ab hS ?_ | refine Ao Aa Ab hS ?_ | refine As Aa Ab hS ?_); clear hS; intro b w hS; refine Ad ?_) | ((first | refine Br Aa Ab hS ?_ | refine Ap Aa Ab hS ?_ | refine Aq Aa Ab hS ?_); clear hS; intro w hS; refine Ad ?_)) | ((fail_if_success (with_reducible refine Ac ?_)); first | go_step | go_step3 | rw [Exit.noGoto_normal] | rw [Exit.noGoto_ret] | rw [Exit.noGoto_exit]))
    rename_i bR y0 y1 KK hKK
    go_loopw [4, 6] (fun u4 u6 wr => ∃ k : Nat, k ≤ 128 ∧ u6 = .int .i64 (k : Int) ∧ St w0 wr [(b, bvs (D.take k ++ zs (128 - k)), 30), (bR, bvs (zs 128), 30)]) (fun _ u6 _ => 128 - (intOf u6).toNat)
    case atStart => exact ⟨0, by omega, rfl, hS⟩
    case round =>
      clear hS
      obtain ⟨k, hk, rfl, hS⟩ := hrel
      have s0 : (D.take k ++ zs (128 - k)).length = 128 := by rw [List.length_append, List.length_take, zs_len]; omega
      by_cases hlt : k < 128
      · have hm : k % q < q := Nat.mod_lt _ (by omega)
        have hck := hcell (k % q) (by omega)
        rw [← hDg hne hlt] at hck
        have hset := bvs_fill (l := D) (i := k) (n := 128) (by omega) lD
        have hrm : (k : Int) % (q : Int) = ((k % q : Nat) : Int) := (Int.natCast_emod k q).symm
        obtain ⟨y, hy⟩ : ∃ y, D.getD k 0 = y := ⟨_, rfl⟩
        rw [hy] at hck hset
        obtain ⟨j, hj⟩ : ∃ j, k % q = j := ⟨_, rfl⟩
        rw [hj] at hm hck hrm
        obtain ⟨X, hX⟩ : ∃ X, D.take k ++ zs (128 - k) = X := ⟨_, rfl⟩
        obtain ⟨Y, hY⟩ : ∃ Y, D.take (k + 1) ++ zs (128 - (k + 1)) = Y := ⟨_, rfl⟩
        rw [hX] at hS s0 hset
        rw [hY] at hset
        repeat' (first | ((with_reducible refine Ac ?_); first | (refine Stp.go Aa (by rfl) (by rfl) (r_rem (by rfl) (by rfl) (by rfl) (by omega) hrm) ?_; refine Ad ?_) | ((first | refine Ai Aa ?_ | refine Al Aa ?_ | refine Af Aa ?_ | refine Av Aa Ab hS ?_ (hv := by first | rfl | exact Bi | (rw [Array.getElem?_toList]; exact hck)) | refine Bs Aa (by first | exact ((hS).far htb).1) ?_ (hv := by first | rfl | exact Bi | (rw [Array.getElem?_toList]; exact hck)) | refine Ba Aa Ab hS ?_ (hv := by first | exact Bo _ _ (by (try simp only [Bn, Bg, Bm, List.length_append, List.length_set, zs_len, List.length_take, List.length_drop, List.length_cons, List.length_nil]); first | done | rfl | omega) | (exact hck) | rfl) | refine Da Aa (by first | exact ((hS).far htb).1) ?_ (hv := by first | exact Bo _ _ (by (try simp only [Bn, Bg, Bm, List.length_append, List.length_set, zs_len, List.length_take, List.length_drop, List.length_cons, List.length_nil]); first | done | rfl | omega) | (exact hck) | rfl) | refine Ag Aa ?_ | refine Ae Aa ?_ | refine Be Aa ?_ | refine Bd Aa ?_ | refine Cq Aa ?_ | refine Ak Aa ?_ | refine Aj Aa ?_ | refine Aw Aa (fun hc => ?_) (fun hc => ?_) | refine Cp Aa ?_ | refine Ar Aa ?_) <;> refine Ad ?_) | ((first | refine Ay Aa Ab hS ?_ | refine Ao Aa Ab hS ?_ | refine As Aa Ab hS ?_); clear hS; intro b w hS; refine Ad ?_) | ((first | refine Br Aa Ab hS ?_ | refine Ap Aa Ab hS ?_ | refine Aq Aa Ab hS ?_); clear hS; intro w hS; refine Ad ?_)) | ((fail_if_success (with_reducible refine Ac ?_)); first | go_step | go_step3 | rw [Exit.noGoto_normal] | rw [Exit.noGoto_ret] | rw [Exit.noGoto_exit]))
        rw [hset] at hS
        go_roundw
        case rel => exact ⟨k + 1, by omega, by push_cast; rfl, by rw [hY]; exact hS⟩
        case measure => first | (simp [intOf]; done) | (simp [intOf]; omega)
      · obtain rfl : k = 128 := by omega
        have hD2 : D.take 128 ++ zs (128 - 128) = D := by rw [List.take_of_length_le (by omega), Nat.sub_self, List.eq_nil_of_length_eq_zero (zs_len 0), List.append_nil]
        rw [hD2] at hS
        have s1 : csz (bvs D) = 128 := by rw [Bg, lD]
        repeat' (first | ((with_reducible refine Ac ?_); first | ((first | refine Ai Aa ?_ | refine Al Aa ?_ | refine Af Aa ?_ | refine Av Aa Ab hS ?_ | refine Ba Aa Ab hS ?_ | refine Ag Aa ?_ | refine Ae Aa ?_ | refine Be Aa ?_ | refine Bd Aa ?_ | refine Cq Aa ?_ | refine Ak Aa ?_ | refine Aj Aa ?_ | refine Aw Aa (fun hc => ?_) (fun hc => ?_) | refine Cp Aa ?_ | refine Ar Aa ?_) <;> refine Ad ?_) | ((first | refine Ay Aa Ab hS ?_ | refine Ao Aa Ab hS ?_ | refine As Aa Ab hS ?_); clear hS; intro b w hS; refine Ad ?_) | ((first | refine Br Aa Ab hS ?_ | refine Ap Aa Ab hS ?_ | refine Aq Aa Ab hS ?_); clear hS; intro w hS; refine Ad ?_)) | ((fail_if_success (with_reducible refine Ac ?_)); first | go_step | go_step3 | rw [Exit.noGoto_normal] | rw [Exit.noGoto_ret] | rw [Exit.noGoto_exit]))
        exact post_cell (n := 128) Try.results42 (by kernel_rfl) (.inl rfl) _ _ _ _ rfl rfl (hS.blk 1 rfl) (by rw [← csz_is]; exact s1) ⟨rfl, hS.below⟩
end Go.Proofs.Ytcjncidahjneaaa

namespace Go.Proofs.Ytcjncidahjneaaa
open Go.ChangeShapes Go.WideShapes Go.ChangeAt Go.RowKit
attribute [local irreducible] wpList wpListIn Oper.quietAt wpM
attribute [local irreducible] tagL
theorem rdGood_t (n : Int) (l : List Pt) (hl : l.length ≤ 1000) (hn : 0 ≤ n) (hs : soundP l) (v : Value) (w0 : World) (hv : PutsAt w0 v l) : Calls Try.prog 43 #[.int .i64 n, v] w0 fun e w' => e = .returned (.bool true) ∧ Below w0.heap.size w0 w' := by
  refine (rdGood_any n l hl v w0 hv).mono ?_
  rintro e w' ⟨b, rfl, h, hB⟩
  exact ⟨by rw [h.2 ⟨hn, hs⟩], hB⟩
theorem rdGood_f (n : Int) (l : List Pt) (hl : l.length ≤ 1000) (hs : ¬ (0 ≤ n ∧ soundP l)) (v : Value) (w0 : World) (hv : PutsAt w0 v l) : Calls Try.prog 43 #[.int .i64 n, v] w0 fun e w' => e = .returned (.bool false) ∧ Below w0.heap.size w0 w' := by
  refine (rdGood_any n l hl v w0 hv).mono ?_
  rintro e w' ⟨b, rfl, h, hB⟩
  cases b with
  | false => exact ⟨rfl, hB⟩
  | true => exact absurd (h.1 rfl) hs
set_option maxRecDepth 100000 in
set_option maxHeartbeats 2000000 in
theorem refEnc_bad (n : Int) (l : List Pt) (hl : l.length ≤ 1000) (hbad : n < 0 ∨ ¬ soundP l) (kv v : Value) (w0 : World) (hv : PutsAt w0 v l) :
    Calls Try.prog 19 #[kv, .int .i64 n, v] w0 fun e w' => e = .returned (.tuple #[.slice none 0 0, .bool false]) ∧ Below w0.heap.size w0 w' := by
  have hS := St.start w0
  have hs : ¬ (0 ≤ n ∧ soundP l) := fun h => by
    rcases hbad with h1 | h1
    · omega
    · exact h1 h.2
  have hsd := fun w hv => rdGood_f n l hl hs v w hv
  go_enter Try.func19, Try.ntmps19
  repeat' (first | ((with_reducible refine Ac ?_); first | ((first | refine Ai Aa ?_ | refine Al Aa ?_ | refine Af Aa ?_ | refine Av Aa Ab hS ?_ | refine Ba Aa Ab hS ?_ | refine Ag Aa ?_ | refine Ae Aa ?_ | refine Be Aa ?_ | refine Bl Aa ?_ | refine Bd Aa ?_ | refine Ak Aa ?_ | refine Aj Aa ?_ | refine Aw Aa (fun hc => ?_) (fun hc => ?_) | refine Az Aa ?_ | refine Bw Aa ?_ | refine Bh Aa ?_ | refine Bc Aa ?_ | refine Au Aa ?_ | refine Ar Aa ?_) <;> refine Ad ?_) | ((first | refine Ay Aa Ab hS ?_ | refine Ao Aa Ab hS ?_ | refine As Aa Ab hS ?_); clear hS; intro b w hS; refine Ad ?_) | ((first | refine Ap Aa Ab hS ?_ | refine Aq Aa Ab hS ?_); clear hS; intro w hS; refine Ad ?_) | (refine Ce Aa Ab hS (hsd _ (hv.below hS.below)) ?_; clear hS; intro w hS; refine Ad ?_)) | ((fail_if_success (with_reducible refine Ac ?_)); first | go_step | go_step3 | rw [Exit.noGoto_normal] | rw [Exit.noGoto_ret] | rw [Exit.noGoto_exit]))
  go_ret2
  exact ⟨rfl, hS.below⟩
/-- Own sectors, or nil. -/
def CeL (C : List UInt8) (k : Nat) (v : Value) (Lr : List Blk) : Prop := (k = 0 ∧ C = [] ∧ v = .slice none 0 0 ∧ Lr = []) ∨
  ∃ g c sp, v = .slice (some ⟨g, 0, none⟩) k c ∧ k ≤ c ∧ c ≤ maxLen ∧ sp.length = (c - k) * 128 ∧ Lr = [(g, (C.map bv ++ sp).toArray, 30)]
theorem put_bytes {w : World} {b o : Nat} {cs : Array Value} {t : TypeId} {fr : Nat × Nat} {l : List Pt} (hb : blk w b = some (.cells cs t fr)) (ho : okP l) (hc : ∀ j x, (putsC l)[j]? = some x → cs[o + j]? = some x) {k : Nat} {a : Int} {C : List UInt8} (hx : l[k]? = some (a, C)) : BytesAt w (.slice (some ⟨b, o + k * 129 + 1, none⟩) 128 128) C := by
  obtain ⟨lC, c1, c2, c3, c4⟩ := put_cells ho hc hx
  refine bytesAt_blk hb lC (Nat.le_refl _) (fun j x hj => ?_)
  obtain ⟨hj1, rfl⟩ := List.getElem?_eq_some_iff.1 hj
  have := c4 j (by omega)
  rw [this, List.getD_eq_getElem?_getD, List.getElem?_eq_getElem hj1]
  rfl
theorem bodyL_next {l : List Pt} {k : Nat} {a : Int} {C : List UInt8} (hx : l[k]? = some (a, C)) : bodyL (l.take (k + 1)) = bodyL (l.take k) ++ C := by
  unfold bodyL
  rw [List.take_add_one, hx, List.flatMap_append]
  simp
set_option maxRecDepth 100000 in
set_option maxHeartbeats 8000000 in
theorem refEnc_good (key : List UInt8) (hk : key.length ≤ 1000000) (n : Int) (hn : 0 ≤ n) (l : List Pt) (hs : soundP l) (kv v : Value) (w0 : World) (hkv : BytesAt w0 kv key) (hv : PutsAt w0 v l) :
    Calls Try.prog 19 #[kv, .int .i64 n, v] w0 fun e w' => ∃ g c sp, e = .returned (.tuple #[.slice (some ⟨g, 0, none⟩) (l.length + 2) c, .bool true]) ∧ l.length + 2 ≤ c ∧ c ≤ maxLen ∧ sp.length = (c - (l.length + 2)) * 128 ∧ w0.heap.size ≤ g ∧ blk w' g = some (.cells ((encL key n l).map bv ++ sp).toArray 30 (0, 0)) ∧ Below w0.heap.size w0 w' := by
  have hS := St.start w0
  obtain ⟨hs1, hs2, h56⟩ := id hs
  have hsd := fun w hv => rdGood_t n l (by omega) hn hs v w hv
  have hE : encL key n l = firstC n l ++ (tagC key (firstC n l) l ++ bodyL l) := rfl
  have hFC : firstC n l = firstT n l ++ zs (128 - (firstT n l).length) := rfl
  have hTT : firstT n l = (beB (u64W n) 8 ++ beB l.length 2) ++ l.flatMap fun x => beB (u64W x.1) 2 := by unfold firstT; rw [List.append_assoc]
  have hTl := firstT_len n l
  have lF := firstC_len n h56
  have h8 := beB_len (u64W n) 8
  have h2 := beB_len l.length 2
  have hTG : ∀ C, tagC key C l = tagL key (C ++ bodyL l) ++ zs 96 := fun _ => rfl
  obtain ⟨ho, p, c, rfl, hc, hp0, hcell⟩ := id hv
  have hbl := bodyL_len ho
  obtain ⟨q, hq⟩ : ∃ q, l.length = q := ⟨_, rfl⟩
  have hu : u64W (q : Int) = q := by unfold u64W; omega
  rw [hq] at hc h56 hv hsd hTT h2 hTl hbl ⊢
  have hn8 := fun w => num_8 n w
  have hn2 := fun w => num_2 (q : Int) (by omega) w
  rw [hu] at hn2
  obtain ⟨A, hA⟩ : ∃ A, beB (u64W n) 8 = A := ⟨_, rfl⟩
  rw [hA] at h8 hTT hn8
  obtain ⟨A2, hA2⟩ : ∃ A, beB q 2 = A := ⟨_, rfl⟩
  rw [hA2] at h2 hTT hn2
  obtain ⟨Y, hY⟩ : ∃ Y, firstC n l = Y := ⟨_, rfl⟩
  rw [hY] at hE lF hFC
  have sY : csz (bvs Y) = 128 := by rw [Bg, lF]
  go_enter Try.func19, Try.ntmps19
  repeat' (first | ((with_reducible refine Ac ?_); first | ((first | refine Ai Aa ?_ | refine Al Aa ?_ | refine Af Aa ?_ | refine Av Aa Ab hS ?_ | refine Ba Aa Ab hS ?_ | refine Ag Aa ?_ | refine Ae Aa ?_ | refine Be Aa ?_ | refine Bl Aa ?_ | refine Bd Aa ?_ | refine Ak Aa ?_ | refine Aj Aa ?_ | refine Aw Aa (fun hc => ?_) (fun hc => ?_) | refine Az Aa ?_ | refine Bw Aa ?_ | refine Bh Aa ?_ | refine Bc Aa ?_ | refine Au Aa ?_ | refine Ar Aa ?_) <;> refine Ad ?_) | ((first | refine Ay Aa Ab hS ?_ | refine Ao Aa Ab hS ?_ | refine As Aa Ab hS ?_); clear hS; intro b w hS; refine Ad ?_) | ((first | refine Ap Aa Ab hS ?_ | refine Aq Aa Ab hS ?_); clear hS; intro w hS; refine Ad ?_) | (refine Ce Aa Ab hS (hsd _ (hv.below hS.below)) ?_; clear hS; intro w hS; refine Ad ?_)) | ((fail_if_success (with_reducible refine Ac ?_)); first | go_step | go_step3 | rw [Exit.noGoto_normal] | rw [Exit.noGoto_ret] | rw [Exit.noGoto_exit]))
  refine s_call Aa (by rfl) (by rfl) (by rfl) (by rfl) (by rfl) (by infer_instance) (hn8 _) ?_
  rintro e w1 ⟨sv, rfl, hR, hB2⟩
  refine ⟨_, rfl, ?_⟩
  refine Ad ?_
  rcases hR with ⟨_, hbad⟩ | ⟨g, c1, sp, rfl, k1, k2, k3, k4, k5⟩
  · rw [hbad] at h8; cases h8
  replace hS := Ab.new hS hB2 k4 k5
  repeat' (first | ((with_reducible refine Ac ?_); first | ((first | refine Ai Aa ?_ | refine Al Aa ?_ | refine Af Aa ?_ | refine Av Aa Ab hS ?_ | refine Ba Aa Ab hS ?_ | refine Ag Aa ?_ | refine Ae Aa ?_ | refine Be Aa ?_ | refine Bl Aa ?_ | refine Bd Aa ?_ | refine Ak Aa ?_ | refine Aj Aa ?_ | refine Aw Aa (fun hc => ?_) (fun hc => ?_) | refine Az Aa ?_ | refine Bw Aa ?_ | refine Bh Aa ?_ | refine Bc Aa ?_ | refine Au Aa ?_ | refine Ar Aa ?_) <;> refine Ad ?_) | ((first | refine Ay Aa Ab hS ?_ | refine Ao Aa Ab hS ?_ | refine As Aa Ab hS ?_); clear hS; intro b w hS; refine Ad ?_) | ((first | refine Ap Aa Ab hS ?_ | refine Aq Aa Ab hS ?_); clear hS; intro w hS; refine Ad ?_)) | ((fail_if_success (with_reducible refine Ac ?_)); first | go_step | go_step3 | rw [Exit.noGoto_normal] | rw [Exit.noGoto_ret] | rw [Exit.noGoto_exit]))
  refine s_call Aa (by rfl) (by rfl) (by rfl) (by rfl) (by rfl) (by infer_instance) (hn2 _) ?_
  rintro e w1 ⟨sv, rfl, hR, hB3⟩
  refine ⟨_, rfl, ?_⟩
  refine Ad ?_
  rcases hR with ⟨_, hbad⟩ | ⟨g2, c2, sp2, rfl, i1, i2, i3, i4, i5⟩
  · rw [hbad] at h2; cases h2
  replace hS := Ab.new hS hB3 i4 i5
  repeat' (first | ((with_reducible refine Ac ?_); first | ((first | refine Ai Aa ?_ | refine Al Aa ?_ | refine Af Aa ?_ | refine Av Aa Ab hS ?_ | refine Ba Aa Ab hS ?_ | refine Ag Aa ?_ | refine Ae Aa ?_ | refine Be Aa ?_ | refine Bl Aa ?_ | refine Bd Aa ?_ | refine Ak Aa ?_ | refine Aj Aa ?_ | refine Aw Aa (fun hc => ?_) (fun hc => ?_) | refine Az Aa ?_ | refine Bw Aa ?_ | refine Bh Aa ?_ | refine Bc Aa ?_ | refine Au Aa ?_ | refine Ar Aa ?_) <;> refine Ad ?_) | ((first | refine Ay Aa Ab hS ?_ | refine Ao Aa Ab hS ?_ | refine As Aa Ab hS ?_); clear hS; intro b w hS; refine Ad ?_) | ((first | refine Ap Aa Ab hS ?_ | refine Aq Aa Ab hS ?_); clear hS; intro w hS; refine Ad ?_)) | ((fail_if_success (with_reducible refine Ac ?_)); first | go_step | go_step3 | rw [Exit.noGoto_normal] | rw [Exit.noGoto_ret] | rw [Exit.noGoto_exit]))
  have hb2 : BytesAt w1 (.slice (some ⟨g2, 0, none⟩) A2.length c2) A2 := bytesAt_blk (hS.blk 0 rfl) rfl i1 (fun j x hj => by rw [Nat.zero_add, List.getElem?_toArray, List.getElem?_append_left (by rw [List.length_map]; exact (List.getElem?_eq_some_iff.1 hj).1), List.getElem?_map, hj]; rfl)
  refine s_appX Aa Ab hS (by rfl) (by rfl) (by rfl) (by rfl) (by infer_instance) (by exact at_ 1 rfl) (l := A) (spare := sp) (by rfl) rfl k1 (by omega) hb2 (by unfold maxLen at k2 ⊢; omega) (nm := 10) (by omega) ?_
  clear hS k1 k2 k3 k4 k5 i1 i2 i3 i4 i5 hb2 hB2 hB3
  intro b1 d1 sp1 w5 q1 q2 q3 hS
  replace hS := hS.take 1
  refine Ad ?_
  repeat' (first | ((with_reducible refine Ac ?_); first | ((first | refine Ai Aa ?_ | refine Al Aa ?_ | refine Af Aa ?_ | refine Av Aa Ab hS ?_ | refine Ba Aa Ab hS ?_ | refine Ag Aa ?_ | refine Ae Aa ?_ | refine Be Aa ?_ | refine Bl Aa ?_ | refine Bd Aa ?_ | refine Ak Aa ?_ | refine Aj Aa ?_ | refine Aw Aa (fun hc => ?_) (fun hc => ?_) | refine Az Aa ?_ | refine Bw Aa ?_ | refine Bh Aa ?_ | refine Bc Aa ?_ | refine Au Aa ?_ | refine Ar Aa ?_) <;> refine Ad ?_) | ((first | refine Ay Aa Ab hS ?_ | refine Ao Aa Ab hS ?_ | refine As Aa Ab hS ?_); clear hS; intro b w hS; refine Ad ?_) | ((first | refine Ap Aa Ab hS ?_ | refine Aq Aa Ab hS ?_); clear hS; intro w hS; refine Ad ?_)) | ((fail_if_success (with_reducible refine Ac ?_)); first | go_step | go_step3 | rw [Exit.noGoto_normal] | rw [Exit.noGoto_ret] | rw [Exit.noGoto_exit]))
  go_loopw [8, 10, 12] (fun u8 u10 u12 wr => ∃ (k g c : Nat) (sp : List Value), k ≤ q ∧ u12 = .int .i64 (k : Int) ∧ u8 = .slice (some ⟨g, 0, none⟩) (10 + 2 * k) c ∧ 10 + 2 * k ≤ c ∧ c ≤ maxLen ∧ sp.length = c - (10 + 2 * k) ∧ St w0 wr [(g, (((A ++ A2) ++ (l.take k).flatMap fun x => beB (u64W x.1) 2).map bv ++ sp).toArray, 5)]) (fun _ _ u12 _ => q - (intOf u12).toNat)
  case atStart => exact ⟨0, b1, d1, sp1, by omega, rfl, rfl, q1, q2, q3, by rw [List.take_zero, List.flatMap_nil, List.append_nil]; exact hS⟩
  case round =>
    clear hS q1 q2 q3
    obtain ⟨k, g, c3, sp, hk2, rfl, rfl, k1, k2, k3, hS⟩ := hrel
    have k2' := k2
    unfold maxLen at k2'
    have hlk : ((A ++ A2) ++ (l.take k).flatMap fun x => beB (u64W x.1) 2).length = 10 + 2 * k := by
      rw [List.length_append, List.length_append, h8, h2, nums_len, List.length_take]; omega
    by_cases hlt : k < q
    · obtain ⟨⟨a, C⟩, hx⟩ : ∃ x, l[k]? = some x := ⟨_, List.getElem?_eq_getElem (by omega)⟩
      obtain ⟨b0, o0, cs, ty, fr, rfl, hb, hcc⟩ := hcell (by intro e; rw [e] at hq; simp at hq; omega)
      obtain ⟨lC, d1, d2, d3, d4⟩ := put_cells ho hcc hx
      have hin : inR a := hs2 _ (List.mem_of_getElem? hx)
      have hnx := nums_next hx
      dsimp only at hnx
      have hna := fun w => num_2 a hin w
      have h2a := beB_len (u64W a) 2
      obtain ⟨E, hEa⟩ : ∃ E, beB (u64W a) 2 = E := ⟨_, rfl⟩
      rw [hEa] at hnx hna h2a
      obtain ⟨T, hTk⟩ : ∃ T, ((A ++ A2) ++ (l.take k).flatMap fun x => beB (u64W x.1) 2) = T := ⟨_, rfl⟩
      rw [hTk] at hS hlk
      have hT2 : T ++ E = (A ++ A2) ++ (l.take (k + 1)).flatMap fun x => beB (u64W x.1) 2 := by rw [hnx, ← List.append_assoc, hTk]
      repeat' (first | ((with_reducible refine Ac ?_); first | ((first | refine Ai Aa ?_ | refine Al Aa ?_ | refine Af Aa ?_ | refine Av Aa Ab hS ?_ (hv := by first | rfl | exact Bi | (rw [Array.getElem?_toList]; exact d3)) | refine Bs Aa (by first | exact ((hS).far hb).1) ?_ (hv := by first | rfl | exact Bi | (rw [Array.getElem?_toList]; exact d3)) | refine Ba Aa Ab hS ?_ (hv := by first | exact Bo _ _ (by (try simp only [Bn, Bg, Bm, List.length_append, List.length_set, zs_len, List.length_take, List.length_drop, List.length_cons, List.length_nil]); first | done | rfl | omega) | (exact d3) | rfl) | refine Da Aa (by first | exact ((hS).far hb).1) ?_ (hv := by first | exact Bo _ _ (by (try simp only [Bn, Bg, Bm, List.length_append, List.length_set, zs_len, List.length_take, List.length_drop, List.length_cons, List.length_nil]); first | done | rfl | omega) | (exact d3) | rfl) | refine Ag Aa ?_ | refine Ae Aa ?_ | refine Be Aa ?_ | refine Bl Aa ?_ | refine Bd Aa ?_ | refine Ak Aa ?_ | refine Aj Aa ?_ | refine Aw Aa (fun hc => ?_) (fun hc => ?_) | refine Az Aa ?_ | refine Bw Aa ?_ | refine Bh Aa ?_ | refine Bc Aa ?_ | refine Au Aa ?_ | refine Ar Aa ?_) <;> refine Ad ?_) | ((first | refine Ay Aa Ab hS ?_ | refine Ao Aa Ab hS ?_ | refine As Aa Ab hS ?_); clear hS; intro b w hS; refine Ad ?_) | ((first | refine Ap Aa Ab hS ?_ | refine Aq Aa Ab hS ?_); clear hS; intro w hS; refine Ad ?_)) | ((fail_if_success (with_reducible refine Ac ?_)); first | go_step | go_step3 | rw [Exit.noGoto_normal] | rw [Exit.noGoto_ret] | rw [Exit.noGoto_exit]))
      refine s_call Aa (by rfl) (by rfl) (by rfl) (by rfl) (by rfl) (by infer_instance) (hna _) ?_
      rintro e w1 ⟨sv, rfl, hR, hB3⟩
      refine ⟨_, rfl, ?_⟩
      refine Ad ?_
      rcases hR with ⟨_, hbad⟩ | ⟨g2, c2, sp2, rfl, i1, i2, i3, i4, i5⟩
      · rw [hbad] at h2a; cases h2a
      replace hS := Ab.new hS hB3 i4 i5
      repeat' (first | ((with_reducible refine Ac ?_); first | ((first | refine Ai Aa ?_ | refine Al Aa ?_ | refine Af Aa ?_ | refine Av Aa Ab hS ?_ | refine Ba Aa Ab hS ?_ | refine Ag Aa ?_ | refine Ae Aa ?_ | refine Be Aa ?_ | refine Bl Aa ?_ | refine Bd Aa ?_ | refine Ak Aa ?_ | refine Aj Aa ?_ | refine Aw Aa (fun hc => ?_) (fun hc => ?_) | refine Az Aa ?_ | refine Bw Aa ?_ | refine Bh Aa ?_ | refine Bc Aa ?_ | refine Au Aa ?_ | refine Ar Aa ?_) <;> refine Ad ?_) | ((first | refine Ay Aa Ab hS ?_ | refine Ao Aa Ab hS ?_ | refine As Aa Ab hS ?_); clear hS; intro b w hS; refine Ad ?_) | ((first | refine Ap Aa Ab hS ?_ | refine Aq Aa Ab hS ?_); clear hS; intro w hS; refine Ad ?_)) | ((fail_if_success (with_reducible refine Ac ?_)); first | go_step | go_step3 | rw [Exit.noGoto_normal] | rw [Exit.noGoto_ret] | rw [Exit.noGoto_exit]))
      have hb2 : BytesAt w1 (.slice (some ⟨g2, 0, none⟩) E.length c2) E := bytesAt_blk (hS.blk 0 rfl) rfl i1 (fun j x hj => by rw [Nat.zero_add, List.getElem?_toArray, List.getElem?_append_left (by rw [List.length_map]; exact (List.getElem?_eq_some_iff.1 hj).1), List.getElem?_map, hj]; rfl)
      refine s_appX Aa Ab hS (by rfl) (by rfl) (by rfl) (by rfl) (by infer_instance) (by exact at_ 1 rfl) (l := T) (spare := sp) (by rfl) hlk k1 (by omega) hb2 (by unfold maxLen at k2 ⊢; omega) (nm := 10 + 2 * (k + 1)) (by omega) ?_
      clear hS
      intro b1 d1 sp1 w5 q1 q2 q3 hS
      replace hS := hS.take 1
      rw [hT2] at hS
      refine Ad ?_
      repeat' (first | ((with_reducible refine Ac ?_); first | ((first | refine Ai Aa ?_ | refine Al Aa ?_ | refine Af Aa ?_ | refine Av Aa Ab hS ?_ | refine Ba Aa Ab hS ?_ | refine Ag Aa ?_ | refine Ae Aa ?_ | refine Be Aa ?_ | refine Bl Aa ?_ | refine Bd Aa ?_ | refine Ak Aa ?_ | refine Aj Aa ?_ | refine Aw Aa (fun hc => ?_) (fun hc => ?_) | refine Az Aa ?_ | refine Bw Aa ?_ | refine Bh Aa ?_ | refine Bc Aa ?_ | refine Au Aa ?_ | refine Ar Aa ?_) <;> refine Ad ?_) | ((first | refine Ay Aa Ab hS ?_ | refine Ao Aa Ab hS ?_ | refine As Aa Ab hS ?_); clear hS; intro b w hS; refine Ad ?_) | ((first | refine Ap Aa Ab hS ?_ | refine Aq Aa Ab hS ?_); clear hS; intro w hS; refine Ad ?_)) | ((fail_if_success (with_reducible refine Ac ?_)); first | go_step | go_step3 | rw [Exit.noGoto_normal] | rw [Exit.noGoto_ret] | rw [Exit.noGoto_exit]))
      go_roundw
      case rel => exact ⟨k + 1, b1, _, sp1, by omega, by push_cast; rfl, rfl, q1, q2, q3, hS⟩
      case measure => first | (simp [intOf]; done) | (simp [intOf]; omega)
    · obtain rfl : k = q := by omega
      rw [List.take_of_length_le (l := l) (by omega), ← hTT] at hS
      rw [List.take_of_length_le (l := l) (by omega), ← hTT] at hlk
      have hbT : BytesAt wr (.slice (some ⟨g, 0, none⟩) (10 + 2 * k) c3) (firstT n l) := bytesAt_blk (hS.blk 0 rfl) hlk k1 (fun j x hj => by rw [Nat.zero_add, List.getElem?_toArray, List.getElem?_append_left (by rw [List.length_map]; exact (List.getElem?_eq_some_iff.1 hj).1), List.getElem?_map, hj]; rfl)
      have hce := rdCell_any (firstT n l) (by omega) _ _ hbT
      rw [← hFC] at hce
      replace hS := hS.take 0
      repeat' (first | ((with_reducible refine Ac ?_); first | ((first | refine Ai Aa ?_ | refine Al Aa ?_ | refine Af Aa ?_ | refine Av Aa Ab hS ?_ | refine Ba Aa Ab hS ?_ | refine Ag Aa ?_ | refine Ae Aa ?_ | refine Be Aa ?_ | refine Bl Aa ?_ | refine Bd Aa ?_ | refine Ak Aa ?_ | refine Aj Aa ?_ | refine Aw Aa (fun hc => ?_) (fun hc => ?_) | refine Az Aa ?_ | refine Bw Aa ?_ | refine Bh Aa ?_ | refine Bc Aa ?_ | refine Au Aa ?_ | refine Ar Aa ?_) <;> refine Ad ?_) | ((first | refine Ay Aa Ab hS ?_ | refine Ao Aa Ab hS ?_ | refine As Aa Ab hS ?_); clear hS; intro b w hS; refine Ad ?_) | ((first | refine Ap Aa Ab hS ?_ | refine Aq Aa Ab hS ?_); clear hS; intro w hS; refine Ad ?_) | (refine Ce Aa Ab hS (hce) ?_; clear hS; intro w hS; refine Ad ?_)) | ((fail_if_success (with_reducible refine Ac ?_)); first | go_step | go_step3 | rw [Exit.noGoto_normal] | rw [Exit.noGoto_ret] | rw [Exit.noGoto_exit]))
      have s2 : csz (hdV 0 (zs 128)) = 129 := by rw [hdV_size, zs_len]
      refine s_appX Aa Ab hS (by rfl) (by rfl) (by rfl) (by rfl) (by infer_instance) (by exact at_ 0 rfl) (l := []) (spare := []) (by rfl) rfl (Nat.le_refl _) (by rfl) (bytesAt_whole (hS.blk 1 rfl) lF) (by rw [lF]; decide) (nm := 128) (by rw [lF]; rfl) ?_
      clear hS
      intro bt ct spt w5 q1 q2 q3 hS
      rw [List.nil_append] at hS
      refine Ad ?_
      repeat' (first | ((with_reducible refine Ac ?_); first | ((first | refine Ai Aa ?_ | refine Al Aa ?_ | refine Af Aa ?_ | refine Av Aa Ab hS ?_ | refine Ba Aa Ab hS ?_ | refine Ag Aa ?_ | refine Ae Aa ?_ | refine Be Aa ?_ | refine Bl Aa ?_ | refine Bd Aa ?_ | refine Ak Aa ?_ | refine Aj Aa ?_ | refine Aw Aa (fun hc => ?_) (fun hc => ?_) | refine Az Aa ?_ | refine Bw Aa ?_ | refine Bh Aa ?_ | refine Bc Aa ?_ | refine Au Aa ?_ | refine Ar Aa ?_) <;> refine Ad ?_) | ((first | refine Ay Aa Ab hS ?_ | refine Ao Aa Ab hS ?_ | refine As Aa Ab hS ?_); clear hS; intro b w hS; refine Ad ?_) | ((first | refine Ap Aa Ab hS ?_ | refine Aq Aa Ab hS ?_); clear hS; intro w hS; refine Ad ?_)) | ((fail_if_success (with_reducible refine Ac ?_)); first | go_step | go_step3 | rw [Exit.noGoto_normal] | rw [Exit.noGoto_ret] | rw [Exit.noGoto_exit]))
      rename_i bY y0 y1 y2 y3
      go_loopw [14, 15, 16] (fun u14 u15 u16 wr => ∃ (j g c : Nat) (sp : List Value) (Lr : List Blk), j ≤ k ∧ u16 = .int .i64 (j : Int) ∧ u14 = .slice (some ⟨g, 0, none⟩) (128 + 128 * j) c ∧ 128 + 128 * j ≤ c ∧ c ≤ maxLen ∧ sp.length = c - (128 + 128 * j) ∧ CeL (bodyL (l.take j)) j u15 Lr ∧ St w0 wr ((g, ((Y ++ bodyL (l.take j)).map bv ++ sp).toArray, 5) :: (bY, bvs Y, 30) :: Lr)) (fun _ _ u16 _ => k - (intOf u16).toNat)
      case atStart => exact ⟨0, bt, ct, spt, [], by omega, rfl, rfl, q1, q2, q3, .inl ⟨rfl, by rw [List.take_zero]; rfl, rfl, rfl⟩, by rw [List.take_zero]; show St _ _ [(bt, ((Y ++ []).map bv ++ spt).toArray, _), _]; rw [List.append_nil]; exact hS⟩
      case round =>
        clear hS q1 q2 q3
        clear k1 k2 k3 k2'
        obtain ⟨j, g, c4, sp, Lr, hj2, rfl, rfl, m1, m2, m3, hR, hS⟩ := hrel
        have m2' := m2
        unfold maxLen at m2'
        have hlj : (Y ++ bodyL (l.take j)).length = 128 + 128 * j := by
          rw [List.length_append, lF, bodyL_len (fun x hx' => ho x (List.mem_of_mem_take hx')), List.length_take]; omega
        have hbj : (bodyL (l.take j)).length = 128 * j := by
          rw [bodyL_len (fun x hx' => ho x (List.mem_of_mem_take hx')), List.length_take]; omega
        by_cases hlt : j < k
        · obtain ⟨⟨a, C⟩, hx⟩ : ∃ x, l[j]? = some x := ⟨_, List.getElem?_eq_getElem (by omega)⟩
          obtain ⟨b0, o0, cs, ty, fr, rfl, hb, hcc⟩ := hcell (by intro e; rw [e] at hq; simp at hq; omega)
          obtain ⟨lC, d1, d2, d3, d4⟩ := put_cells ho hcc hx
          have s1 : csz (hdV a C) = 129 := by rw [hdV_size, lC]
          have sC : csz (bvs C) = 128 := by rw [Bg, lC]
          have hbp := fun w (hb : blk w b0 = some (.cells cs ty fr)) => put_bytes hb ho hcc hx
          have hbd := bodyL_next hx
          have hcut : cut cs (o0 + j * 129 + 1) 128 = bvs C := (cut_of_cells lC (by omega) (fun i x hi => by
            obtain ⟨hi1, rfl⟩ := List.getElem?_eq_some_iff.1 hi
            rw [d4 i (by omega), List.getD_eq_getElem?_getD, List.getElem?_eq_getElem hi1]; rfl)).2
          obtain ⟨Z, hZ⟩ : ∃ Z, bodyL (l.take j) = Z := ⟨_, rfl⟩
          rw [hZ] at hS hlj hbj hR hbd
          obtain ⟨Z2, hZ2⟩ : ∃ Z, bodyL (l.take (j + 1)) = Z := ⟨_, rfl⟩
          rw [hZ2] at hbd
          have hYZ : (Y ++ Z) ++ C = Y ++ Z2 := by rw [hbd, List.append_assoc]
          repeat' (first | ((with_reducible refine Ac ?_); first | ((first | refine Ai Aa ?_ | refine Al Aa ?_ | refine Af Aa ?_ | refine Av Aa Ab hS ?_ | refine Bs Aa (by first | exact ((hS).far hb).1) ?_ | refine Ba Aa Ab hS ?_ | refine Da Aa (by first | exact ((hS).far hb).1) ?_ | refine Ag Aa ?_ | refine Ae Aa ?_ | refine Be Aa ?_ | refine Bl Aa ?_ | refine Bd Aa ?_ | refine Ak Aa ?_ | refine Aj Aa ?_ | refine Aw Aa (fun hc => ?_) (fun hc => ?_) | refine Az Aa ?_ | refine Bw Aa ?_ | refine Bh Aa ?_ | refine Bc Aa ?_ | refine Au Aa ?_ | refine Ar Aa ?_) <;> refine Ad ?_) | ((first | refine Ay Aa Ab hS ?_ | refine Ao Aa Ab hS ?_ | refine As Aa Ab hS ?_); clear hS; intro b w hS; refine Ad ?_) | ((first | refine Ap Aa Ab hS ?_ | refine Aq Aa Ab hS ?_); clear hS; intro w hS; refine Ad ?_)) | ((fail_if_success (with_reducible refine Ac ?_)); first | go_step | go_step3 | rw [Exit.noGoto_normal] | rw [Exit.noGoto_ret] | rw [Exit.noGoto_exit]))
          have hbq := hbp _ (hS.far hb).1
          refine s_appX Aa Ab hS (by rfl) (by rfl) (by rfl) (by rfl) (by infer_instance) (by exact at_ 0 rfl) (l := Y ++ Z) (spare := sp) (by rfl) hlj m1 m3 hbq (by unfold maxLen; omega) (nm := 128 + 128 * (j + 1)) (by omega) ?_
          clear hS
          intro bt ct spt w5 q1 q2 q3 hS
          rw [hYZ] at hS
          refine Ad ?_
          rcases hR with ⟨rfl, hZ0, rfl, rfl⟩ | ⟨g2, c5, sp5, rfl, j1, j2, j3, rfl⟩
          · subst hZ0
            rw [List.nil_append] at hbd
            subst hbd
            repeat' (first | ((with_reducible refine Ac ?_); first | (refine As Aa Ab hS ?_ (h1 := by intro v hv; simp only [List.mem_cons, List.not_mem_nil, or_false] at hv; subst hv; show (bvs Z2).size = 128; rw [← csz_is]; exact sC); clear hS; intro b w hS; refine Ad ?_) | ((first | refine Ai Aa ?_ | refine Al Aa ?_ | refine Af Aa ?_ | refine Av Aa Ab hS ?_ (hv := by first | rfl | exact Bi | (rw [Array.getElem?_toList]; first | exact hcut)) | refine Bs Aa (by first | exact ((hS).far hb).1) ?_ (hv := by first | rfl | exact Bi | (rw [Array.getElem?_toList]; first | exact hcut)) | refine Ba Aa Ab hS ?_ (hv := by first | exact Bo _ _ (by (try simp only [Bn, Bg, Bm, List.length_append, List.length_set, zs_len, List.length_take, List.length_drop, List.length_cons, List.length_nil]); first | done | rfl | omega) | (first | exact hcut) | rfl) | refine Da Aa (by first | exact ((hS).far hb).1) ?_ (hv := by first | exact Bo _ _ (by (try simp only [Bn, Bg, Bm, List.length_append, List.length_set, zs_len, List.length_take, List.length_drop, List.length_cons, List.length_nil]); first | done | rfl | omega) | (first | exact hcut) | rfl) | refine Ag Aa ?_ | refine Ae Aa ?_ | refine Be Aa ?_ | refine Bl Aa ?_ | refine Bd Aa ?_ | refine Ak Aa ?_ | refine Aj Aa ?_ | refine Aw Aa (fun hc => ?_) (fun hc => ?_) | refine Az Aa ?_ | refine Bw Aa ?_ | refine Bh Aa ?_ | refine Bc Aa ?_ | refine Au Aa ?_ | refine Ar Aa ?_) <;> refine Ad ?_) | ((first | refine Ay Aa Ab hS ?_ | refine Ao Aa Ab hS ?_ | refine As Aa Ab hS ?_); clear hS; intro b w hS; refine Ad ?_) | ((first | refine Ap Aa Ab hS ?_ | refine Aq Aa Ab hS ?_); clear hS; intro w hS; refine Ad ?_)) | ((fail_if_success (with_reducible refine Ac ?_)); first | go_step | go_step3 | rw [Exit.noGoto_normal] | rw [Exit.noGoto_ret] | rw [Exit.noGoto_exit]))
            refine s_append0 Aa Ab hS (by rfl) (by rfl) (by rfl) (by rfl) (by infer_instance) (xs := Z2.map bv) (src_blk (hS.blk 0 rfl) (fun j v h => by rw [Nat.zero_add]; exact h)) (by rw [List.length_map, lC]) (by decide) ?_
            clear hS
            intro b' c' sp' w' p1 p2 p3 hS
            replace hS := (hS.erase 1).perm (List.perm_append_comm (l₁ := [_]) (l₂ := [_, _]))
            refine Ad ?_
            repeat' (first | ((with_reducible refine Ac ?_); first | ((first | refine Ai Aa ?_ | refine Al Aa ?_ | refine Af Aa ?_ | refine Av Aa Ab hS ?_ | refine Ba Aa Ab hS ?_ | refine Ag Aa ?_ | refine Ae Aa ?_ | refine Be Aa ?_ | refine Bl Aa ?_ | refine Bd Aa ?_ | refine Ak Aa ?_ | refine Aj Aa ?_ | refine Aw Aa (fun hc => ?_) (fun hc => ?_) | refine Az Aa ?_ | refine Bw Aa ?_ | refine Bh Aa ?_ | refine Bc Aa ?_ | refine Au Aa ?_ | refine Ar Aa ?_) <;> refine Ad ?_) | ((first | refine Ay Aa Ab hS ?_ | refine Ao Aa Ab hS ?_ | refine As Aa Ab hS ?_); clear hS; intro b w hS; refine Ad ?_) | ((first | refine Ap Aa Ab hS ?_ | refine Aq Aa Ab hS ?_); clear hS; intro w hS; refine Ad ?_)) | ((fail_if_success (with_reducible refine Ac ?_)); first | go_step | go_step3 | rw [Exit.noGoto_normal] | rw [Exit.noGoto_ret] | rw [Exit.noGoto_exit]))
            go_roundw
            case rel => exact ⟨0 + 1, bt, ct, spt, _, by omega, by push_cast; rfl, rfl, q1, q2, q3, .inr ⟨b', c', sp', rfl, p1, p2, p3, rfl⟩, by rw [hZ2]; exact hS⟩
            case measure => first | (simp [intOf]; done) | (simp [intOf]; omega)
          · have j2' := j2
            unfold maxLen at j2'
            repeat' (first | ((with_reducible refine Ac ?_); first | (refine As Aa Ab hS ?_ (h1 := by intro v hv; simp only [List.mem_cons, List.not_mem_nil, or_false] at hv; subst hv; show (bvs C).size = 128; rw [← csz_is]; exact sC); clear hS; intro b w hS; refine Ad ?_) | ((first | refine Ai Aa ?_ | refine Al Aa ?_ | refine Af Aa ?_ | refine Av Aa Ab hS ?_ (hv := by first | rfl | exact Bi | (rw [Array.getElem?_toList]; first | exact hcut)) | refine Bs Aa (by first | exact ((hS).far hb).1) ?_ (hv := by first | rfl | exact Bi | (rw [Array.getElem?_toList]; first | exact hcut)) | refine Ba Aa Ab hS ?_ (hv := by first | exact Bo _ _ (by (try simp only [Bn, Bg, Bm, List.length_append, List.length_set, zs_len, List.length_take, List.length_drop, List.length_cons, List.length_nil]); first | done | rfl | omega) | (first | exact hcut) | rfl) | refine Da Aa (by first | exact ((hS).far hb).1) ?_ (hv := by first | exact Bo _ _ (by (try simp only [Bn, Bg, Bm, List.length_append, List.length_set, zs_len, List.length_take, List.length_drop, List.length_cons, List.length_nil]); first | done | rfl | omega) | (first | exact hcut) | rfl) | refine Ag Aa ?_ | refine Ae Aa ?_ | refine Be Aa ?_ | refine Bl Aa ?_ | refine Bd Aa ?_ | refine Ak Aa ?_ | refine Aj Aa ?_ | refine Aw Aa (fun hc => ?_) (fun hc => ?_) | refine Az Aa ?_ | refine Bw Aa ?_ | refine Bh Aa ?_ | refine Bc Aa ?_ | refine Au Aa ?_ | refine Ar Aa ?_) <;> refine Ad ?_) | ((first | refine Ay Aa Ab hS ?_ | refine Ao Aa Ab hS ?_ | refine As Aa Ab hS ?_); clear hS; intro b w hS; refine Ad ?_) | ((first | refine Ap Aa Ab hS ?_ | refine Aq Aa Ab hS ?_); clear hS; intro w hS; refine Ad ?_)) | ((fail_if_success (with_reducible refine Ac ?_)); first | go_step | go_step3 | rw [Exit.noGoto_normal] | rw [Exit.noGoto_ret] | rw [Exit.noGoto_exit]))
            refine s_append Aa Ab hS (by rfl) (by rfl) (by rfl) (by rfl) (by infer_instance) (by exact at_ 3 rfl) (olds := Z.map bv) (spare := sp5) (by rfl) (by rw [List.length_map, hbj]; omega) j1 j3 (xs := C.map bv) (src_blk (hS.blk 0 rfl) (fun j v h => by rw [Nat.zero_add]; exact h)) (by rw [List.length_map, lC]) (bv_one C) (by unfold maxLen; omega) (nm := j + 1) (by omega) ?_
            clear hS
            intro b' c' sp' w' p1 p2 p3 hS
            rw [← List.map_append, ← hbd] at hS
            replace hS := (hS.erase 1).perm (List.perm_append_comm (l₁ := [_]) (l₂ := [_, _]))
            refine Ad ?_
            repeat' (first | ((with_reducible refine Ac ?_); first | ((first | refine Ai Aa ?_ | refine Al Aa ?_ | refine Af Aa ?_ | refine Av Aa Ab hS ?_ | refine Ba Aa Ab hS ?_ | refine Ag Aa ?_ | refine Ae Aa ?_ | refine Be Aa ?_ | refine Bl Aa ?_ | refine Bd Aa ?_ | refine Ak Aa ?_ | refine Aj Aa ?_ | refine Aw Aa (fun hc => ?_) (fun hc => ?_) | refine Az Aa ?_ | refine Bw Aa ?_ | refine Bh Aa ?_ | refine Bc Aa ?_ | refine Au Aa ?_ | refine Ar Aa ?_) <;> refine Ad ?_) | ((first | refine Ay Aa Ab hS ?_ | refine Ao Aa Ab hS ?_ | refine As Aa Ab hS ?_); clear hS; intro b w hS; refine Ad ?_) | ((first | refine Ap Aa Ab hS ?_ | refine Aq Aa Ab hS ?_); clear hS; intro w hS; refine Ad ?_)) | ((fail_if_success (with_reducible refine Ac ?_)); first | go_step | go_step3 | rw [Exit.noGoto_normal] | rw [Exit.noGoto_ret] | rw [Exit.noGoto_exit]))
            go_roundw
            case rel => exact ⟨j + 1, bt, ct, spt, _, by omega, by push_cast; rfl, rfl, q1, q2, q3, .inr ⟨b', c', sp', rfl, p1, p2, p3, rfl⟩, by rw [hZ2]; exact hS⟩
            case measure => first | (simp [intOf]; done) | (simp [intOf]; omega)
        · obtain rfl : j = k := by omega
          rw [List.take_of_length_le (l := l) (by omega)] at hS hlj hbj hR
          have hbt : BytesAt wr (.slice (some ⟨g, 0, none⟩) (128 + 128 * j) c4) (Y ++ bodyL l) := bytesAt_blk (hS.blk 0 rfl) hlj m1 (fun j x hj => by rw [Nat.zero_add, List.getElem?_toArray, List.getElem?_append_left (by rw [List.length_map]; exact (List.getElem?_eq_some_iff.1 hj).1), List.getElem?_map, hj]; rfl)
          have htg := refTag_any key (Y ++ bodyL l) hk (by omega) kv _ wr (hkv.below hS.below) hbt
          have hTG := hTG Y
          have lT := tagC_len key Y l
          have hgl := tagL_len key (Y ++ bodyL l)
          obtain ⟨G, hG⟩ : ∃ G, tagL key (Y ++ bodyL l) = G := ⟨_, rfl⟩
          rw [hG] at htg hTG hgl
          obtain ⟨T, hT⟩ : ∃ T, tagC key Y l = T := ⟨_, rfl⟩
          rw [hT] at hE hTG lT
          obtain ⟨Z, hZ⟩ : ∃ Z, bodyL l = Z := ⟨_, rfl⟩
          rw [hZ] at hE hR hbj
          have sG : csz (bvs G) = 32 := by rw [Bg, hgl]
          have sT : csz (bvs T) = 128 := by rw [Bg, lT]
          replace hS := Ab.sub (L' := (bY, bvs Y, 30) :: Lr) hS (fun x hx => List.mem_cons_of_mem _ hx) (List.nodup_cons.1 hS.2.2).2
          repeat' (first | ((with_reducible refine Ac ?_); first | ((first | refine Ai Aa ?_ | refine Al Aa ?_ | refine Af Aa ?_ | refine Av Aa Ab hS ?_ | refine Ba Aa Ab hS ?_ | refine Ag Aa ?_ | refine Ae Aa ?_ | refine Be Aa ?_ | refine Bl Aa ?_ | refine Bd Aa ?_ | refine Ak Aa ?_ | refine Aj Aa ?_ | refine Aw Aa (fun hc => ?_) (fun hc => ?_) | refine Az Aa ?_ | refine Bw Aa ?_ | refine Bh Aa ?_ | refine Bc Aa ?_ | refine Au Aa ?_ | refine Ar Aa ?_) <;> refine Ad ?_) | ((first | refine Ay Aa Ab hS ?_ | refine Ao Aa Ab hS ?_ | refine As Aa Ab hS ?_); clear hS; intro b w hS; refine Ad ?_) | ((first | refine Ap Aa Ab hS ?_ | refine Aq Aa Ab hS ?_); clear hS; intro w hS; refine Ad ?_) | (refine Ce Aa Ab hS (htg) ?_; clear hS; intro w hS; refine Ad ?_)) | ((fail_if_success (with_reducible refine Ac ?_)); first | go_step | go_step3 | rw [Exit.noGoto_normal] | rw [Exit.noGoto_ret] | rw [Exit.noGoto_exit]))
          have hT' : G ++ zs (128 - G.length) = T := by rw [hgl, hTG]
          have hc7 := fun v w hv => rdCell_any G (by omega) v w hv
          rw [hT'] at hc7
          have e0 : ((bvs Y).toList ++ (bvs T).toList).toArray = ((Y ++ T).map bv ++ []).toArray := by simp [bvs]
          have lYT : (Y ++ T).length = 2 * 128 := by rw [List.length_append, lF, lT]
          rcases hR with ⟨rfl, hZ0, rfl, rfl⟩ | ⟨g2, c5, sp5, rfl, j1, j2, j3, rfl⟩
          · skip
            refine any_start [0, 1, 2, 3, 4, 5, 6, 7] (by kernel_rfl) (by kernel_rfl) ?_
            intro w hcq
            replace hS := hS.cls hcq
            clear hcq
            (refine any_pull 1 (by kernel_rfl) (by rfl) (by rfl) (by exact fun _ _ _ _ h => h) ?_; apply Exists.intro; refine ⟨fun C w' => ?_, ?_⟩; (focus (first | exact Db | exact Ct | exact Cc)); refine wa_put ?_)
            (refine any_pull 4 (by kernel_rfl) (by rfl) (by rfl) (by exact fun _ _ _ _ h => h) ?_; apply Exists.intro; refine ⟨fun C w' => ?_, ?_⟩; (focus (first | exact q_move)); refine wa_put ?_)
            refine any_turn2 0 2 (by kernel_rfl) (by rfl) (by rfl) ?_ ?_
            · skip
              repeat' (first | ((with_reducible refine Ac ?_); first | ((first | refine Ai Aa ?_ | refine Al Aa ?_ | refine Af Aa ?_ | refine Av Aa Ab hS ?_ | refine Ba Aa Ab hS ?_ | refine Ag Aa ?_ | refine Ae Aa ?_ | refine Be Aa ?_ | refine Bl Aa ?_ | refine Bd Aa ?_ | refine Ak Aa ?_ | refine Aj Aa ?_ | refine Aw Aa (fun hc => ?_) (fun hc => ?_) | refine Az Aa ?_ | refine Bw Aa ?_ | refine Bh Aa ?_ | refine Bc Aa ?_ | refine Au Aa ?_ | refine Ar Aa ?_) <;> refine Ad ?_) | ((first | refine Ay Aa Ab hS ?_ | refine Ao Aa Ab hS ?_ | refine As Aa Ab hS ?_); clear hS; intro b w hS; refine Ad ?_) | ((first | refine Ap Aa Ab hS ?_ | refine Aq Aa Ab hS ?_); clear hS; intro w hS; refine Ad ?_)) | ((fail_if_success (with_reducible refine Ac ?_)); first | go_step | go_step3 | rw [Exit.noGoto_normal] | rw [Exit.noGoto_ret] | rw [Exit.noGoto_exit]))
              refine any_turn 2 (by kernel_rfl) (by rfl) ?_
              repeat' (first | ((with_reducible refine Ac ?_); first | ((first | refine Ai Aa ?_) <;> refine Ad ?_) | (refine Ce Aa Ab hS (hc7 _ _ (bytesAt_whole (hS.blk 0 rfl) hgl)) ?_; clear hS; intro w hS; refine Ad ?_)) | ((fail_if_success (with_reducible refine Ac ?_)); first | go_step | go_step3 | rw [Exit.noGoto_normal] | rw [Exit.noGoto_ret] | rw [Exit.noGoto_exit]))
              refine any_turn 3 (by kernel_rfl) (by rfl) ?_
              refine As Aa Ab hS ?_ (h1 := by
                intro v hv
                simp only [List.mem_cons, List.not_mem_nil, or_false] at hv
                rcases hv with rfl | rfl
                · show (bvs Y).size = 128
                  rw [← csz_is]; exact sY
                · show (bvs T).size = 128
                  rw [← csz_is]; exact sT)
              clear hS
              intro bo w hS
              refine Ad ?_
              rw [e0] at hS
              repeat' (first | ((with_reducible refine Ac ?_); first | ((first | refine Ai Aa ?_ | refine Ar Aa ?_) <;> refine Ad ?_) | ((first | refine Ao Aa Ab hS ?_ | refine As Aa Ab hS ?_); clear hS; intro b w hS; refine Ad ?_)) | ((fail_if_success (with_reducible refine Ac ?_)); first | go_step | go_step3 | rw [Exit.noGoto_normal] | rw [Exit.noGoto_ret] | rw [Exit.noGoto_exit]))
              refine any_turn 5 (by kernel_rfl) (by rfl) ?_
              refine Stp.go Aa (by rfl) (by rfl) (r_appendN (by rfl) (by rfl) (by rfl) (by infer_instance) (Nat.le_refl _)) ?_
              refine Ad ?_
              repeat' (first | ((with_reducible refine Ac ?_); first | ((first | refine Ai Aa ?_) <;> refine Ad ?_)) | ((fail_if_success (with_reducible refine Ac ?_)); first | go_step | go_step3 | rw [Exit.noGoto_normal] | rw [Exit.noGoto_ret] | rw [Exit.noGoto_exit]))
              refine any_turn 6 (by kernel_rfl) (by rfl) ?_
              repeat' (first | ((with_reducible refine Ac ?_); first | ((first | refine Ai Aa ?_ | refine Af Aa ?_) <;> refine Ad ?_)) | ((fail_if_success (with_reducible refine Ac ?_)); first | go_step | go_step3 | rw [Exit.noGoto_normal] | rw [Exit.noGoto_ret] | rw [Exit.noGoto_exit]))
              refine any_turn 7 (by kernel_rfl) (by rfl) ?_
              repeat' (first | ((with_reducible refine Ac ?_); first | ((first | refine Ai Aa ?_ | refine Af Aa ?_) <;> refine Ad ?_)) | ((fail_if_success (with_reducible refine Ac ?_)); first | go_step | go_step3 | rw [Exit.noGoto_normal] | rw [Exit.noGoto_ret] | rw [Exit.noGoto_exit]))
              refine any_done (by kernel_rfl) ?_
              repeat' (first | ((with_reducible refine Ac ?_); first | ((first | refine Ai Aa ?_ | refine Al Aa ?_ | refine Af Aa ?_ | refine Av Aa Ab hS ?_ | refine Ba Aa Ab hS ?_ | refine Ag Aa ?_ | refine Ae Aa ?_ | refine Be Aa ?_ | refine Bl Aa ?_ | refine Bd Aa ?_ | refine Ak Aa ?_ | refine Aj Aa ?_ | refine Aw Aa (fun hc => ?_) (fun hc => ?_) | refine Az Aa ?_ | refine Bw Aa ?_ | refine Bh Aa ?_ | refine Bc Aa ?_ | refine Au Aa ?_ | refine Ar Aa ?_) <;> refine Ad ?_) | ((first | refine Ay Aa Ab hS ?_ | refine Ao Aa Ab hS ?_ | refine As Aa Ab hS ?_); clear hS; intro b w hS; refine Ad ?_) | ((first | refine Ap Aa Ab hS ?_ | refine Aq Aa Ab hS ?_); clear hS; intro w hS; refine Ad ?_)) | ((fail_if_success (with_reducible refine Ac ?_)); first | go_step | go_step3 | rw [Exit.noGoto_normal] | rw [Exit.noGoto_ret] | rw [Exit.noGoto_exit]))
              go_ret2
              exact ⟨bo, 2, [], rfl, by omega, by decide, rfl, hS.low 0 rfl, by rw [hE, hZ0, List.append_nil T]; exact hS.blk 0 rfl, hS.below⟩
            · skip
              repeat' (first | ((with_reducible refine Ac ?_); first | ((first | refine Ai Aa ?_ | refine Al Aa ?_ | refine Af Aa ?_ | refine Av Aa Ab hS ?_ | refine Ba Aa Ab hS ?_ | refine Ag Aa ?_ | refine Ae Aa ?_ | refine Be Aa ?_ | refine Bl Aa ?_ | refine Bd Aa ?_ | refine Ak Aa ?_ | refine Aj Aa ?_ | refine Aw Aa (fun hc => ?_) (fun hc => ?_) | refine Az Aa ?_ | refine Bw Aa ?_ | refine Bh Aa ?_ | refine Bc Aa ?_ | refine Au Aa ?_ | refine Ar Aa ?_) <;> refine Ad ?_) | ((first | refine Ay Aa Ab hS ?_ | refine Ao Aa Ab hS ?_ | refine As Aa Ab hS ?_); clear hS; intro b w hS; refine Ad ?_) | ((first | refine Ap Aa Ab hS ?_ | refine Aq Aa Ab hS ?_); clear hS; intro w hS; refine Ad ?_) | (refine Ce Aa Ab hS (hc7 _ _ (bytesAt_whole (hS.blk 0 rfl) hgl)) ?_; clear hS; intro w hS; refine Ad ?_)) | ((fail_if_success (with_reducible refine Ac ?_)); first | go_step | go_step3 | rw [Exit.noGoto_normal] | rw [Exit.noGoto_ret] | rw [Exit.noGoto_exit]))
              refine any_turn 0 (by kernel_rfl) (by rfl) ?_
              repeat' (first | ((with_reducible refine Ac ?_); first | ((first | refine Ai Aa ?_ | refine Ba Aa Ab hS ?_) <;> refine Ad ?_)) | ((fail_if_success (with_reducible refine Ac ?_)); first | go_step | go_step3 | rw [Exit.noGoto_normal] | rw [Exit.noGoto_ret] | rw [Exit.noGoto_exit]))
              refine any_turn 3 (by kernel_rfl) (by rfl) ?_
              refine As Aa Ab hS ?_ (h1 := by
                intro v hv
                simp only [List.mem_cons, List.not_mem_nil, or_false] at hv
                rcases hv with rfl | rfl
                · show (bvs Y).size = 128
                  rw [← csz_is]; exact sY
                · show (bvs T).size = 128
                  rw [← csz_is]; exact sT)
              clear hS
              intro bo w hS
              refine Ad ?_
              rw [e0] at hS
              repeat' (first | ((with_reducible refine Ac ?_); first | ((first | refine Ai Aa ?_ | refine Ar Aa ?_) <;> refine Ad ?_) | ((first | refine Ao Aa Ab hS ?_ | refine As Aa Ab hS ?_); clear hS; intro b w hS; refine Ad ?_)) | ((fail_if_success (with_reducible refine Ac ?_)); first | go_step | go_step3 | rw [Exit.noGoto_normal] | rw [Exit.noGoto_ret] | rw [Exit.noGoto_exit]))
              refine any_turn 5 (by kernel_rfl) (by rfl) ?_
              refine Stp.go Aa (by rfl) (by rfl) (r_appendN (by rfl) (by rfl) (by rfl) (by infer_instance) (Nat.le_refl _)) ?_
              refine Ad ?_
              repeat' (first | ((with_reducible refine Ac ?_); first | ((first | refine Ai Aa ?_) <;> refine Ad ?_)) | ((fail_if_success (with_reducible refine Ac ?_)); first | go_step | go_step3 | rw [Exit.noGoto_normal] | rw [Exit.noGoto_ret] | rw [Exit.noGoto_exit]))
              refine any_turn 6 (by kernel_rfl) (by rfl) ?_
              repeat' (first | ((with_reducible refine Ac ?_); first | ((first | refine Ai Aa ?_ | refine Af Aa ?_) <;> refine Ad ?_)) | ((fail_if_success (with_reducible refine Ac ?_)); first | go_step | go_step3 | rw [Exit.noGoto_normal] | rw [Exit.noGoto_ret] | rw [Exit.noGoto_exit]))
              refine any_turn 7 (by kernel_rfl) (by rfl) ?_
              repeat' (first | ((with_reducible refine Ac ?_); first | ((first | refine Ai Aa ?_ | refine Af Aa ?_) <;> refine Ad ?_)) | ((fail_if_success (with_reducible refine Ac ?_)); first | go_step | go_step3 | rw [Exit.noGoto_normal] | rw [Exit.noGoto_ret] | rw [Exit.noGoto_exit]))
              refine any_done (by kernel_rfl) ?_
              repeat' (first | ((with_reducible refine Ac ?_); first | ((first | refine Ai Aa ?_ | refine Al Aa ?_ | refine Af Aa ?_ | refine Av Aa Ab hS ?_ | refine Ba Aa Ab hS ?_ | refine Ag Aa ?_ | refine Ae Aa ?_ | refine Be Aa ?_ | refine Bl Aa ?_ | refine Bd Aa ?_ | refine Ak Aa ?_ | refine Aj Aa ?_ | refine Aw Aa (fun hc => ?_) (fun hc => ?_) | refine Az Aa ?_ | refine Bw Aa ?_ | refine Bh Aa ?_ | refine Bc Aa ?_ | refine Au Aa ?_ | refine Ar Aa ?_) <;> refine Ad ?_) | ((first | refine Ay Aa Ab hS ?_ | refine Ao Aa Ab hS ?_ | refine As Aa Ab hS ?_); clear hS; intro b w hS; refine Ad ?_) | ((first | refine Ap Aa Ab hS ?_ | refine Aq Aa Ab hS ?_); clear hS; intro w hS; refine Ad ?_)) | ((fail_if_success (with_reducible refine Ac ?_)); first | go_step | go_step3 | rw [Exit.noGoto_normal] | rw [Exit.noGoto_ret] | rw [Exit.noGoto_exit]))
              go_ret2
              exact ⟨bo, 2, [], rfl, by omega, by decide, rfl, hS.low 0 rfl, by rw [hE, hZ0, List.append_nil T]; exact hS.blk 0 rfl, hS.below⟩
          · skip
            refine any_start [0, 1, 2, 3, 4, 5, 6, 7] (by kernel_rfl) (by kernel_rfl) ?_
            intro w hcq
            replace hS := hS.cls hcq
            clear hcq
            (refine any_pull 1 (by kernel_rfl) (by rfl) (by rfl) (by exact fun _ _ _ _ h => h) ?_; apply Exists.intro; refine ⟨fun C w' => ?_, ?_⟩; (focus (first | exact Db | exact Ct | exact Cc)); refine wa_put ?_)
            (refine any_pull 4 (by kernel_rfl) (by rfl) (by rfl) (by exact fun _ _ _ _ h => h) ?_; apply Exists.intro; refine ⟨fun C w' => ?_, ?_⟩; (focus (first | exact q_move)); refine wa_put ?_)
            refine any_turn2 0 2 (by kernel_rfl) (by rfl) (by rfl) ?_ ?_
            · skip
              repeat' (first | ((with_reducible refine Ac ?_); first | ((first | refine Ai Aa ?_ | refine Al Aa ?_ | refine Af Aa ?_ | refine Av Aa Ab hS ?_ | refine Ba Aa Ab hS ?_ | refine Ag Aa ?_ | refine Ae Aa ?_ | refine Be Aa ?_ | refine Bl Aa ?_ | refine Bd Aa ?_ | refine Ak Aa ?_ | refine Aj Aa ?_ | refine Aw Aa (fun hc => ?_) (fun hc => ?_) | refine Az Aa ?_ | refine Bw Aa ?_ | refine Bh Aa ?_ | refine Bc Aa ?_ | refine Au Aa ?_ | refine Ar Aa ?_) <;> refine Ad ?_) | ((first | refine Ay Aa Ab hS ?_ | refine Ao Aa Ab hS ?_ | refine As Aa Ab hS ?_); clear hS; intro b w hS; refine Ad ?_) | ((first | refine Ap Aa Ab hS ?_ | refine Aq Aa Ab hS ?_); clear hS; intro w hS; refine Ad ?_)) | ((fail_if_success (with_reducible refine Ac ?_)); first | go_step | go_step3 | rw [Exit.noGoto_normal] | rw [Exit.noGoto_ret] | rw [Exit.noGoto_exit]))
              refine any_turn 2 (by kernel_rfl) (by rfl) ?_
              repeat' (first | ((with_reducible refine Ac ?_); first | ((first | refine Ai Aa ?_) <;> refine Ad ?_) | (refine Ce Aa Ab hS (hc7 _ _ (bytesAt_whole (hS.blk 0 rfl) hgl)) ?_; clear hS; intro w hS; refine Ad ?_)) | ((fail_if_success (with_reducible refine Ac ?_)); first | go_step | go_step3 | rw [Exit.noGoto_normal] | rw [Exit.noGoto_ret] | rw [Exit.noGoto_exit]))
              refine any_turn 3 (by kernel_rfl) (by rfl) ?_
              refine As Aa Ab hS ?_ (h1 := by
                intro v hv
                simp only [List.mem_cons, List.not_mem_nil, or_false] at hv
                rcases hv with rfl | rfl
                · show (bvs Y).size = 128
                  rw [← csz_is]; exact sY
                · show (bvs T).size = 128
                  rw [← csz_is]; exact sT)
              clear hS
              intro bo w hS
              refine Ad ?_
              rw [e0] at hS
              repeat' (first | ((with_reducible refine Ac ?_); first | ((first | refine Ai Aa ?_ | refine Ar Aa ?_) <;> refine Ad ?_) | ((first | refine Ao Aa Ab hS ?_ | refine As Aa Ab hS ?_); clear hS; intro b w hS; refine Ad ?_)) | ((fail_if_success (with_reducible refine Ac ?_)); first | go_step | go_step3 | rw [Exit.noGoto_normal] | rw [Exit.noGoto_ret] | rw [Exit.noGoto_exit]))
              refine any_turn 5 (by kernel_rfl) (by rfl) ?_
              refine s_append Aa Ab hS (by rfl) (by rfl) (by rfl) (by rfl) (by infer_instance) (by exact at_ 0 rfl) (olds := (Y ++ T).map bv) (spare := []) (by rfl) (by rw [List.length_map, lYT]) (Nat.le_refl _) (by rfl) (xs := Z.map bv) (src_blk (hS.blk 3 rfl) (fun i v h => by rw [Nat.zero_add]; exact (List.getElem?_append_left (List.getElem?_eq_some_iff.1 h).1).trans h)) (by rw [List.length_map, hbj]; omega) (bv_one Z) (by unfold maxLen; omega) (nm := j + 2) (by omega) ?_
              clear hS
              intro b' c' sp' w' p1 p2 p3 hS
              rw [← List.map_append, List.append_assoc, ← hE] at hS
              refine Ad ?_
              repeat' (first | ((with_reducible refine Ac ?_); first | ((first | refine Ai Aa ?_) <;> refine Ad ?_)) | ((fail_if_success (with_reducible refine Ac ?_)); first | go_step | go_step3 | rw [Exit.noGoto_normal] | rw [Exit.noGoto_ret] | rw [Exit.noGoto_exit]))
              refine any_turn 6 (by kernel_rfl) (by rfl) ?_
              repeat' (first | ((with_reducible refine Ac ?_); first | ((first | refine Ai Aa ?_ | refine Af Aa ?_) <;> refine Ad ?_)) | ((fail_if_success (with_reducible refine Ac ?_)); first | go_step | go_step3 | rw [Exit.noGoto_normal] | rw [Exit.noGoto_ret] | rw [Exit.noGoto_exit]))
              refine any_turn 7 (by kernel_rfl) (by rfl) ?_
              repeat' (first | ((with_reducible refine Ac ?_); first | ((first | refine Ai Aa ?_ | refine Af Aa ?_) <;> refine Ad ?_)) | ((fail_if_success (with_reducible refine Ac ?_)); first | go_step | go_step3 | rw [Exit.noGoto_normal] | rw [Exit.noGoto_ret] | rw [Exit.noGoto_exit]))
              refine any_done (by kernel_rfl) ?_
              repeat' (first | ((with_reducible refine Ac ?_); first | ((first | refine Ai Aa ?_ | refine Al Aa ?_ | refine Af Aa ?_ | refine Av Aa Ab hS ?_ | refine Ba Aa Ab hS ?_ | refine Ag Aa ?_ | refine Ae Aa ?_ | refine Be Aa ?_ | refine Bl Aa ?_ | refine Bd Aa ?_ | refine Ak Aa ?_ | refine Aj Aa ?_ | refine Aw Aa (fun hc => ?_) (fun hc => ?_) | refine Az Aa ?_ | refine Bw Aa ?_ | refine Bh Aa ?_ | refine Bc Aa ?_ | refine Au Aa ?_ | refine Ar Aa ?_) <;> refine Ad ?_) | ((first | refine Ay Aa Ab hS ?_ | refine Ao Aa Ab hS ?_ | refine As Aa Ab hS ?_); clear hS; intro b w hS; refine Ad ?_) | ((first | refine Ap Aa Ab hS ?_ | refine Aq Aa Ab hS ?_); clear hS; intro w hS; refine Ad ?_)) | ((fail_if_success (with_reducible refine Ac ?_)); first | go_step | go_step3 | rw [Exit.noGoto_normal] | rw [Exit.noGoto_ret] | rw [Exit.noGoto_exit]))
              go_ret2
              exact ⟨b', c', sp', rfl, p1, p2, p3, hS.low 0 rfl, hS.blk 0 rfl, hS.below⟩
            · skip
              repeat' (first | ((with_reducible refine Ac ?_); first | ((first | refine Ai Aa ?_ | refine Al Aa ?_ | refine Af Aa ?_ | refine Av Aa Ab hS ?_ | refine Ba Aa Ab hS ?_ | refine Ag Aa ?_ | refine Ae Aa ?_ | refine Be Aa ?_ | refine Bl Aa ?_ | refine Bd Aa ?_ | refine Ak Aa ?_ | refine Aj Aa ?_ | refine Aw Aa (fun hc => ?_) (fun hc => ?_) | refine Az Aa ?_ | refine Bw Aa ?_ | refine Bh Aa ?_ | refine Bc Aa ?_ | refine Au Aa ?_ | refine Ar Aa ?_) <;> refine Ad ?_) | ((first | refine Ay Aa Ab hS ?_ | refine Ao Aa Ab hS ?_ | refine As Aa Ab hS ?_); clear hS; intro b w hS; refine Ad ?_) | ((first | refine Ap Aa Ab hS ?_ | refine Aq Aa Ab hS ?_); clear hS; intro w hS; refine Ad ?_) | (refine Ce Aa Ab hS (hc7 _ _ (bytesAt_whole (hS.blk 0 rfl) hgl)) ?_; clear hS; intro w hS; refine Ad ?_)) | ((fail_if_success (with_reducible refine Ac ?_)); first | go_step | go_step3 | rw [Exit.noGoto_normal] | rw [Exit.noGoto_ret] | rw [Exit.noGoto_exit]))
              refine any_turn 0 (by kernel_rfl) (by rfl) ?_
              repeat' (first | ((with_reducible refine Ac ?_); first | ((first | refine Ai Aa ?_ | refine Ba Aa Ab hS ?_) <;> refine Ad ?_)) | ((fail_if_success (with_reducible refine Ac ?_)); first | go_step | go_step3 | rw [Exit.noGoto_normal] | rw [Exit.noGoto_ret] | rw [Exit.noGoto_exit]))
              refine any_turn 3 (by kernel_rfl) (by rfl) ?_
              refine As Aa Ab hS ?_ (h1 := by
                intro v hv
                simp only [List.mem_cons, List.not_mem_nil, or_false] at hv
                rcases hv with rfl | rfl
                · show (bvs Y).size = 128
                  rw [← csz_is]; exact sY
                · show (bvs T).size = 128
                  rw [← csz_is]; exact sT)
              clear hS
              intro bo w hS
              refine Ad ?_
              rw [e0] at hS
              repeat' (first | ((with_reducible refine Ac ?_); first | ((first | refine Ai Aa ?_ | refine Ar Aa ?_) <;> refine Ad ?_) | ((first | refine Ao Aa Ab hS ?_ | refine As Aa Ab hS ?_); clear hS; intro b w hS; refine Ad ?_)) | ((fail_if_success (with_reducible refine Ac ?_)); first | go_step | go_step3 | rw [Exit.noGoto_normal] | rw [Exit.noGoto_ret] | rw [Exit.noGoto_exit]))
              refine any_turn 5 (by kernel_rfl) (by rfl) ?_
              refine s_append Aa Ab hS (by rfl) (by rfl) (by rfl) (by rfl) (by infer_instance) (by exact at_ 0 rfl) (olds := (Y ++ T).map bv) (spare := []) (by rfl) (by rw [List.length_map, lYT]) (Nat.le_refl _) (by rfl) (xs := Z.map bv) (src_blk (hS.blk 3 rfl) (fun i v h => by rw [Nat.zero_add]; exact (List.getElem?_append_left (List.getElem?_eq_some_iff.1 h).1).trans h)) (by rw [List.length_map, hbj]; omega) (bv_one Z) (by unfold maxLen; omega) (nm := j + 2) (by omega) ?_
              clear hS
              intro b' c' sp' w' p1 p2 p3 hS
              rw [← List.map_append, List.append_assoc, ← hE] at hS
              refine Ad ?_
              repeat' (first | ((with_reducible refine Ac ?_); first | ((first | refine Ai Aa ?_) <;> refine Ad ?_)) | ((fail_if_success (with_reducible refine Ac ?_)); first | go_step | go_step3 | rw [Exit.noGoto_normal] | rw [Exit.noGoto_ret] | rw [Exit.noGoto_exit]))
              refine any_turn 6 (by kernel_rfl) (by rfl) ?_
              repeat' (first | ((with_reducible refine Ac ?_); first | ((first | refine Ai Aa ?_ | refine Af Aa ?_) <;> refine Ad ?_)) | ((fail_if_success (with_reducible refine Ac ?_)); first | go_step | go_step3 | rw [Exit.noGoto_normal] | rw [Exit.noGoto_ret] | rw [Exit.noGoto_exit]))
              refine any_turn 7 (by kernel_rfl) (by rfl) ?_
              repeat' (first | ((with_reducible refine Ac ?_); first | ((first | refine Ai Aa ?_ | refine Af Aa ?_) <;> refine Ad ?_)) | ((fail_if_success (with_reducible refine Ac ?_)); first | go_step | go_step3 | rw [Exit.noGoto_normal] | rw [Exit.noGoto_ret] | rw [Exit.noGoto_exit]))
              refine any_done (by kernel_rfl) ?_
              repeat' (first | ((with_reducible refine Ac ?_); first | ((first | refine Ai Aa ?_ | refine Al Aa ?_ | refine Af Aa ?_ | refine Av Aa Ab hS ?_ | refine Ba Aa Ab hS ?_ | refine Ag Aa ?_ | refine Ae Aa ?_ | refine Be Aa ?_ | refine Bl Aa ?_ | refine Bd Aa ?_ | refine Ak Aa ?_ | refine Aj Aa ?_ | refine Aw Aa (fun hc => ?_) (fun hc => ?_) | refine Az Aa ?_ | refine Bw Aa ?_ | refine Bh Aa ?_ | refine Bc Aa ?_ | refine Au Aa ?_ | refine Ar Aa ?_) <;> refine Ad ?_) | ((first | refine Ay Aa Ab hS ?_ | refine Ao Aa Ab hS ?_ | refine As Aa Ab hS ?_); clear hS; intro b w hS; refine Ad ?_) | ((first | refine Ap Aa Ab hS ?_ | refine Aq Aa Ab hS ?_); clear hS; intro w hS; refine Ad ?_)) | ((fail_if_success (with_reducible refine Ac ?_)); first | go_step | go_step3 | rw [Exit.noGoto_normal] | rw [Exit.noGoto_ret] | rw [Exit.noGoto_exit]))
              go_ret2
              exact ⟨b', c', sp', rfl, p1, p2, p3, hS.low 0 rfl, hS.blk 0 rfl, hS.below⟩
end Go.Proofs.Ytcjncidahjneaaa
