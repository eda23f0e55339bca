/-
  The law RedoDecodes: for every key and all sectors it answers true. No condition.
-/
import Derived.Test.YtcjncidahjneaaaRows
import Derived.Test.YtcjncidahjneaaaJN0

namespace Go.Proofs.Ytcjncidahjneaaa
open Go.ChangeShapes Go.WideShapes Go.ChangeAt Go.RowKit
attribute [local irreducible] wpList wpListIn Oper.quietAt wpM
attribute [local irreducible] encL padC DecOk putsD cntR saysL
theorem okP_dec {key X : List UInt8} {n : Nat} (hX : X.length = 128 * n) {ok : Bool} {l : List Pt} (h : ok = true ↔ DecOk key X n) (ht : ok = true → l = putsD X) (hf : ok = false → l = []) : okP l := by
  cases ok with
  | false => rw [hf rfl]; intro x hx; cases hx
  | true =>
    obtain ⟨h1, h2, _⟩ : 2 ≤ n ∧ 2 + saysR (celX X 0) ≤ n ∧ True := by
      have := h.1 rfl
      unfold DecOk at this
      exact ⟨this.1, this.2.1, trivial⟩
    have := putsD_ok hX (k := saysR (celX X 0)) h2
    rw [List.take_of_length_le (by rw [putsD_len]; exact Nat.le_refl _)] at this
    rw [ht rfl]; exact this
theorem dec_same {key X : List UInt8} {n : Nat} {ok ok2 : Bool} {cnt cnt2 : Int} {l l2 : List Pt} (h : ok = true ↔ DecOk key X n) (h2 : ok2 = true ↔ DecOk key X n) (ht : ok = true → cnt = cntR (celX X 0) ∧ l = putsD X) (hf : ok = false → cnt = 0 ∧ l = []) (ht2 : ok2 = true → cnt2 = cntR (celX X 0) ∧ l2 = putsD X) (hf2 : ok2 = false → cnt2 = 0 ∧ l2 = []) : ok2 = ok ∧ cnt2 = cnt ∧ l2 = l := by
  have e : ok2 = ok := by
    cases ok <;> cases ok2 <;> simp_all
  subst e
  cases ok2 with
  | false => exact ⟨rfl, by rw [(hf rfl).1, (hf2 rfl).1], by rw [(hf rfl).2, (hf2 rfl).2]⟩
  | true => exact ⟨rfl, by rw [(ht rfl).1, (ht2 rfl).1], by rw [(ht rfl).2, (ht2 rfl).2]⟩
set_option maxRecDepth 100000 in
set_option maxHeartbeats 8000000 in
theorem redoDecodes_any (key : List UInt8) (ls : List (List UInt8)) (kv v : Value) (w0 : World) (hkv : BytesAt w0 kv key) (hv : LsAt w0 v ls) :
    Calls Try.prog 5 #[kv, v] w0 fun e w' => e = .returned (.bool true) ∧ Below w0.heap.size w0 w' := by
  obtain ⟨vs, hvs, p, c, rfl, hc, hp0, hcell⟩ := hv
  obtain ⟨p2, c2, rfl, hc2⟩ := hkv.slice
  have hS := St.start w0
  obtain ⟨n, hn⟩ : ∃ n, ls.length = n := ⟨_, rfl⟩
  rw [hn] at hc hcell ⊢
  by_cases hbig : 1000 < key.length ∨ 70 < n
  · by_cases h1 : 1000 < key.length
    · go_enter Try.func5, Try.ntmps5
      repeat' (first | ((with_reducible refine Ac ?_); first | ((first | refine Ai Aa ?_ | refine Al Aa ?_ | refine Af Aa ?_ | refine Av Aa Ab hS ?_ | refine Ba Aa Ab hS ?_ | refine Ag Aa ?_ | refine Ae Aa ?_ | refine Be Aa ?_ | refine Bl Aa ?_ | refine Bd Aa ?_ | refine Ak Aa ?_ | refine Aj Aa ?_ | refine Aw Aa (fun hc => ?_) (fun hc => ?_) | refine Cg Aa ?_ | refine Bz Aa ?_ | refine Bu Aa ?_ | refine Bk Aa ?_ | refine Bw Aa ?_ | refine Bh Aa ?_ | refine Bc Aa ?_ | refine Au Aa ?_ | refine Cp Aa ?_ | refine Ar Aa ?_) <;> refine Ad ?_) | ((first | refine Ay Aa Ab hS ?_ | refine Ao Aa Ab hS ?_ | refine As Aa Ab hS ?_); clear hS; intro b w hS; refine Ad ?_) | ((first | refine Br Aa Ab hS ?_ | refine Ap Aa Ab hS ?_ | refine Aq Aa Ab hS ?_); clear hS; intro w hS; refine Ad ?_)) | ((fail_if_success (with_reducible refine Ac ?_)); first | go_step | go_step3 | rw [Exit.noGoto_normal] | rw [Exit.noGoto_ret] | rw [Exit.noGoto_exit]))
      exact post_one Try.results5 (.inl rfl) _ _ _ _ rfl rfl (hS.blk 0 rfl) ⟨rfl, hS.below⟩
    · have h2 : 70 < n := hbig.resolve_left h1
      go_enter Try.func5, Try.ntmps5
      repeat' (first | ((with_reducible refine Ac ?_); first | ((first | refine Ai Aa ?_ | refine Al Aa ?_ | refine Af Aa ?_ | refine Av Aa Ab hS ?_ | refine Ba Aa Ab hS ?_ | refine Ag Aa ?_ | refine Ae Aa ?_ | refine Be Aa ?_ | refine Bl Aa ?_ | refine Bd Aa ?_ | refine Ak Aa ?_ | refine Aj Aa ?_ | refine Aw Aa (fun hc => ?_) (fun hc => ?_) | refine Cg Aa ?_ | refine Bz Aa ?_ | refine Bu Aa ?_ | refine Bk Aa ?_ | refine Bw Aa ?_ | refine Bh Aa ?_ | refine Bc Aa ?_ | refine Au Aa ?_ | refine Cp Aa ?_ | refine Ar Aa ?_) <;> refine Ad ?_) | ((first | refine Ay Aa Ab hS ?_ | refine Ao Aa Ab hS ?_ | refine As Aa Ab hS ?_); clear hS; intro b w hS; refine Ad ?_) | ((first | refine Br Aa Ab hS ?_ | refine Ap Aa Ab hS ?_ | refine Aq Aa Ab hS ?_); clear hS; intro w hS; refine Ad ?_)) | ((fail_if_success (with_reducible refine Ac ?_)); first | go_step | go_step3 | rw [Exit.noGoto_normal] | rw [Exit.noGoto_ret] | rw [Exit.noGoto_exit]))
      exact post_one Try.results5 (.inl rfl) _ _ _ _ rfl rfl (hS.blk 0 rfl) ⟨rfl, hS.below⟩
  have hk : ¬ 1000 < key.length := fun h => hbig (.inl h)
  have hl : ¬ 70 < n := fun h => hbig (.inr h)
  clear hbig
  obtain ⟨O, lO, h7, hone⟩ := one_enc
  clear h7
  refine calls_of_marksR Try.func5 rfl ?_
  simp only [Try.ntmps5, List.size_toArray, List.length_cons, List.length_nil, Nat.reduceAdd, Nat.reduceSub, Array.replicate_succ, Array.replicate_zero, List.push_toArray, List.append_toArray, List.nil_append, List.cons_append]
  repeat' (first | ((with_reducible refine Ac ?_); first | ((first | refine Ai Aa ?_ | refine Al Aa ?_ | refine Af Aa ?_ | refine Av Aa Ab hS ?_ | refine Ba Aa Ab hS ?_ | refine Ag Aa ?_ | refine Ae Aa ?_ | refine Be Aa ?_ | refine Bl Aa ?_ | refine Bd Aa ?_ | refine Ak Aa ?_ | refine Aj Aa ?_ | refine Aw Aa (fun hc => ?_) (fun hc => ?_) | refine Cg Aa ?_ | refine Bz Aa ?_ | refine Bu Aa ?_ | refine Bk Aa ?_ | refine Bw Aa ?_ | refine Bh Aa ?_ | refine Bc Aa ?_ | refine Au Aa ?_ | refine Cp Aa ?_ | refine Ar Aa ?_) <;> refine Ad ?_) | ((first | refine Ay Aa Ab hS ?_ | refine Ao Aa Ab hS ?_ | refine As Aa Ab hS ?_); clear hS; intro b w hS; refine Ad ?_) | ((first | refine Br Aa Ab hS ?_ | refine Ap Aa Ab hS ?_ | refine Aq Aa Ab hS ?_); clear hS; intro w hS; refine Ad ?_)) | ((fail_if_success (with_reducible refine Ac ?_)); first | go_step | go_step3 | rw [Exit.noGoto_normal] | rw [Exit.noGoto_ret] | rw [Exit.noGoto_exit]))
  obtain ⟨bR, hbR⟩ : ∃ x, x = b := ⟨_, rfl⟩
  rw [← hbR] at hS ⊢
  clear hbR
  refine s_call Aa (by rfl) (by rfl) (by rfl) (by rfl) (by rfl) (by infer_instance) (hone _) ?_
  rintro e w1 ⟨g, c1, sp, rfl, k1, k2, k3, k4, k5, hB⟩
  refine ⟨_, rfl, ?_⟩
  refine Ad ?_
  replace hS := Ab.call hS hB
  clear k1 k2 k3 k4 k5 hB hone lO
  repeat' (first | ((with_reducible refine Ac ?_); first | ((first | refine Ai Aa ?_ | refine Al Aa ?_ | refine Af Aa ?_ | refine Av Aa Ab hS ?_ | refine Ba Aa Ab hS ?_ | refine Ag Aa ?_ | refine Ae Aa ?_ | refine Be Aa ?_ | refine Bl Aa ?_ | refine Bd Aa ?_ | refine Ak Aa ?_ | refine Aj Aa ?_ | refine Aw Aa (fun hc => ?_) (fun hc => ?_) | refine Cg Aa ?_ | refine Bz Aa ?_ | refine Bu Aa ?_ | refine Bk Aa ?_ | refine Bw Aa ?_ | refine Bh Aa ?_ | refine Bc Aa ?_ | refine Au Aa ?_ | refine Cp Aa ?_ | refine Ar Aa ?_) <;> refine Ad ?_) | ((first | refine Ay Aa Ab hS ?_ | refine Ao Aa Ab hS ?_ | refine As Aa Ab hS ?_); clear hS; intro b w hS; refine Ad ?_) | ((first | refine Br Aa Ab hS ?_ | refine Ap Aa Ab hS ?_ | refine Aq Aa Ab hS ?_); clear hS; intro w hS; refine Ad ?_)) | ((fail_if_success (with_reducible refine Ac ?_)); first | go_step | go_step3 | rw [Exit.noGoto_normal] | rw [Exit.noGoto_ret] | rw [Exit.noGoto_exit]))
  have sZ : csz (bvs (zs 128)) = 128 := by rw [Bg, zs_len]
  go_loopw [7, 9, 10, 43] (fun u7 u9 u10 u43 wr => ∃ (k g c : Nat) (sp : List Value), k ≤ n ∧ u43 = .int .i64 (k : Int) ∧ u7 = .slice (some ⟨g, 0, none⟩) k c ∧ k ≤ c ∧ c ≤ maxLen ∧ sp.length = (c - k) * 128 ∧ St w0 wr [(g, ((padsL (ls.take k)).map bv ++ sp).toArray, 30), (bR, #[.bool false], 4)]) (fun _ _ _ u43 _ => n - (intOf u43).toNat)
  case atStart => exact ⟨0, b, 0, [], by omega, rfl, rfl, by omega, by decide, rfl, hS⟩
  case round =>
    clear hS
    obtain ⟨k, g, c4, sp4, hkn, rfl, rfl, k1, k2, k3, hS⟩ := hrel
    have k2' := k2
    unfold maxLen at k2'
    have hlk : (padsL (ls.take k)).length = k * 128 := by rw [padsL_len, List.length_take]; omega
    by_cases hlt : k < n
    · obtain ⟨x, hx⟩ : ∃ x, ls[k]? = some x := ⟨_, List.getElem?_eq_getElem (by omega)⟩
      obtain ⟨b0, o0, cs, ty, fr, rfl, hb, hcc⟩ := hcell (by intro e; rw [e] at hn; simp at hn; omega)
      obtain ⟨sv, hsv, hbx⟩ := hvs k x hx
      have hcs := hcc k sv (by omega) hsv
      have hsz : o0 + k < csz cs := by rw [csz_is]; exact (Array.getElem?_eq_some_iff.1 hcs).1
      have hov := padC_ovw x
      have lP := padC_len x
      have hnx := padsL_next hx
      obtain ⟨D, hD⟩ : ∃ D, padC x = D := ⟨_, rfl⟩
      rw [hD] at hov lP hnx
      have sD : csz (bvs D) = 128 := by rw [Bg, lP]
      obtain ⟨Z, hZ⟩ : ∃ Z, padsL (ls.take k) = Z := ⟨_, rfl⟩
      obtain ⟨Z2, hZ2⟩ : ∃ Z, padsL (ls.take (k + 1)) = Z := ⟨_, rfl⟩
      rw [hZ] at hS hlk hnx
      rw [hZ2] at hnx
      obtain ⟨p5, c5, rfl, hc5⟩ := hbx.slice
      repeat' (first | ((with_reducible refine Ac ?_); first | ((first | refine Ai Aa ?_ | refine Al Aa ?_ | refine Af Aa ?_ | refine Av Aa Ab hS ?_ (hv := by first | rfl | exact Bi | (rw [Array.getElem?_toList]; exact hcs)) | refine Bs Aa (by first | exact ((hS).far hb).1) ?_ (hv := by first | rfl | exact Bi | (rw [Array.getElem?_toList]; exact hcs)) | refine Ba Aa Ab hS ?_ (hv := by first | exact Bo _ _ (by (try simp only [Bn, Bg, Bm, List.length_append, List.length_set, zs_len, List.length_take, List.length_drop, List.length_cons, List.length_nil]); first | done | rfl | omega) | (exact hcs) | rfl) | refine Da Aa (by first | exact ((hS).far hb).1) ?_ (hv := by first | exact Bo _ _ (by (try simp only [Bn, Bg, Bm, List.length_append, List.length_set, zs_len, List.length_take, List.length_drop, List.length_cons, List.length_nil]); first | done | rfl | omega) | (exact hcs) | rfl) | refine Ag Aa ?_ | refine Ae Aa ?_ | refine Be Aa ?_ | refine Bl Aa ?_ | refine Bd Aa ?_ | refine Ak Aa ?_ | refine Aj Aa ?_ | refine Aw Aa (fun hc => ?_) (fun hc => ?_) | refine Cg Aa ?_ | refine Bz Aa ?_ | refine Bu Aa ?_ | refine Bk Aa ?_ | refine Bw Aa ?_ | refine Bh Aa ?_ | refine Bc Aa ?_ | refine Au Aa ?_ | refine Cp Aa ?_ | refine Ar Aa ?_) <;> refine Ad ?_) | ((first | refine Ay Aa Ab hS ?_ | refine Ao Aa Ab hS ?_ | refine As Aa Ab hS ?_); clear hS; intro b w hS; refine Ad ?_) | ((first | refine Br Aa Ab hS ?_ | refine Ap Aa Ab hS ?_ | refine Aq Aa Ab hS ?_); clear hS; intro w hS; refine Ad ?_)) | ((fail_if_success (with_reducible refine Ac ?_)); first | go_step | go_step3 | rw [Exit.noGoto_normal] | rw [Exit.noGoto_ret] | rw [Exit.noGoto_exit]))
      refine s_copy (i := 0) Aa Ab hS (by rfl) (by rfl) (by rfl) (by rfl) (by infer_instance) (by rfl) (hbx.below hS.below) (by rw [List.length_take, sZ]; omega) hov (by (try conv => lhs; simp only [List.set_cons_zero, List.set_cons_succ, List.eraseIdx_cons_zero, List.eraseIdx_cons_succ]); first | done | rfl) rfl ?_
      clear hS
      intro w hS
      refine Ad ?_
      repeat' (first | ((with_reducible refine Ac ?_); first | (refine As Aa Ab hS ?_ (h1 := by intro v hv; simp only [List.mem_cons, List.not_mem_nil, or_false] at hv; subst hv; show (bvs D).size = 128; rw [← csz_is]; exact sD); clear hS; intro b w hS; refine Ad ?_) | ((first | refine Ai Aa ?_ | refine Al Aa ?_ | refine Af Aa ?_ | refine Av Aa Ab hS ?_ | refine Ba Aa Ab hS ?_ | refine Ag Aa ?_ | refine Ae Aa ?_ | refine Be Aa ?_ | refine Bl Aa ?_ | refine Bd Aa ?_ | refine Ak Aa ?_ | refine Aj Aa ?_ | refine Aw Aa (fun hc => ?_) (fun hc => ?_) | refine Cg Aa ?_ | refine Bz Aa ?_ | refine Bu Aa ?_ | refine Bk Aa ?_ | refine Bw Aa ?_ | refine Bh Aa ?_ | refine Bc Aa ?_ | refine Au Aa ?_ | refine Cp Aa ?_ | refine Ar Aa ?_) <;> refine Ad ?_) | ((first | refine Ay Aa Ab hS ?_ | refine Ao Aa Ab hS ?_ | refine As Aa Ab hS ?_); clear hS; intro b w hS; refine Ad ?_) | ((first | refine Br Aa Ab hS ?_ | refine Ap Aa Ab hS ?_ | refine Aq Aa Ab hS ?_); clear hS; intro w hS; refine Ad ?_)) | ((fail_if_success (with_reducible refine Ac ?_)); first | go_step | go_step3 | rw [Exit.noGoto_normal] | rw [Exit.noGoto_ret] | rw [Exit.noGoto_exit]))
      refine s_append Aa Ab hS (by rfl) (by rfl) (by rfl) (by rfl) (by infer_instance) (by exact at_ 2 rfl) (olds := Z.map bv) (spare := sp4) (by rfl) (by rw [List.length_map, hlk]) k1 k3 (xs := D.map bv) (src_blk (hS.blk 0 rfl) (fun j v h => by rw [Nat.zero_add]; exact h)) (by rw [List.length_map, lP]) (bv_one D) (by unfold maxLen; omega) (nm := k + 1) (by omega) ?_
      clear hS
      intro b' c' sp' w' q1 q2 q3 hS
      rw [← List.map_append, ← hnx] at hS
      replace hS := (hS.erase 1).erase 1
      refine Ad ?_
      repeat' (first | ((with_reducible refine Ac ?_); first | ((first | refine Ai Aa ?_ | refine Al Aa ?_ | refine Af Aa ?_ | refine Av Aa Ab hS ?_ | refine Ba Aa Ab hS ?_ | refine Ag Aa ?_ | refine Ae Aa ?_ | refine Be Aa ?_ | refine Bl Aa ?_ | refine Bd Aa ?_ | refine Ak Aa ?_ | refine Aj Aa ?_ | refine Aw Aa (fun hc => ?_) (fun hc => ?_) | refine Cg Aa ?_ | refine Bz Aa ?_ | refine Bu Aa ?_ | refine Bk Aa ?_ | refine Bw Aa ?_ | refine Bh Aa ?_ | refine Bc Aa ?_ | refine Au Aa ?_ | refine Cp Aa ?_ | refine Ar Aa ?_) <;> refine Ad ?_) | ((first | refine Ay Aa Ab hS ?_ | refine Ao Aa Ab hS ?_ | refine As Aa Ab hS ?_); clear hS; intro b w hS; refine Ad ?_) | ((first | refine Br Aa Ab hS ?_ | refine Ap Aa Ab hS ?_ | refine Aq Aa Ab hS ?_); clear hS; intro w hS; refine Ad ?_)) | ((fail_if_success (with_reducible refine Ac ?_)); first | go_step | go_step3 | rw [Exit.noGoto_normal] | rw [Exit.noGoto_ret] | rw [Exit.noGoto_exit]))
      go_roundw
      case rel => exact ⟨k + 1, b', c', sp', by omega, by push_cast; rfl, rfl, q1, q2, q3, by rw [hZ2]; exact hS⟩
      case measure => first | (simp [intOf]; done) | (simp [intOf]; omega)
    · obtain rfl : k = n := by omega
      rw [List.take_of_length_le (l := ls) (by omega)] at hS
      have lX : (padsL ls).length = 128 * k := by rw [padsL_len, hn]
      obtain ⟨X, hXX⟩ : ∃ X, padsL ls = X := ⟨_, rfl⟩
      rw [hXX] at hS lX
      clear hlk hXX hcell hvs
      have hCA : ∀ w L, St w0 w ((g, (X.map bv ++ sp4).toArray, 30) :: L) → CellsAt w (.slice (some ⟨g, 0, none⟩) k c4) X k := fun w L h => CellsAt.own lX k1 (h.blk 0 rfl)
      have hde := fun w h1 h2 => decode_any key (by omega) X k (by omega) (.slice p2 key.length c2) (.slice (some ⟨g, 0, none⟩) k c4) w h1 h2
      have hdr := fun w h1 h2 => refDecode_any key (by omega) X k (by omega) (.slice p2 key.length c2) (.slice (some ⟨g, 0, none⟩) k c4) w h1 h2
      repeat' (first | ((with_reducible refine Ac ?_); first | ((first | refine Ai Aa ?_ | refine Al Aa ?_ | refine Af Aa ?_ | refine Av Aa Ab hS ?_ | refine Ba Aa Ab hS ?_ | refine Ag Aa ?_ | refine Ae Aa ?_ | refine Be Aa ?_ | refine Bl Aa ?_ | refine Bd Aa ?_ | refine Ak Aa ?_ | refine Aj Aa ?_ | refine Aw Aa (fun hc => ?_) (fun hc => ?_) | refine Cg Aa ?_ | refine Bz Aa ?_ | refine Bu Aa ?_ | refine Bk Aa ?_ | refine Bw Aa ?_ | refine Bh Aa ?_ | refine Bc Aa ?_ | refine Au Aa ?_ | refine Cp Aa ?_ | refine Ar Aa ?_) <;> refine Ad ?_) | ((first | refine Ay Aa Ab hS ?_ | refine Ao Aa Ab hS ?_ | refine As Aa Ab hS ?_); clear hS; intro b w hS; refine Ad ?_) | ((first | refine Br Aa Ab hS ?_ | refine Ap Aa Ab hS ?_ | refine Aq Aa Ab hS ?_); clear hS; intro w hS; refine Ad ?_)) | ((fail_if_success (with_reducible refine Ac ?_)); first | go_step | go_step3 | rw [Exit.noGoto_normal] | rw [Exit.noGoto_ret] | rw [Exit.noGoto_exit]))
      refine s_call Aa (by rfl) (by rfl) (by rfl) (by rfl) (by rfl) (by infer_instance) (hde _ (hkv.below hS.below) (hCA _ _ hS)) ?_
      rintro e w1 ⟨ok, cnt, pv, l, rfl, hR1, hok, ht1, hf1, hB⟩
      refine ⟨_, rfl, ?_⟩
      refine Ad ?_
      have hC1 := (hCA _ _ hS).below hB
      replace hS := Ab.call hS hB
      clear hB hde
      repeat' (first | ((with_reducible refine Ac ?_); first | ((first | refine Ai Aa ?_ | refine Al Aa ?_ | refine Af Aa ?_ | refine Av Aa Ab hS ?_ | refine Ba Aa Ab hS ?_ | refine Ag Aa ?_ | refine Ae Aa ?_ | refine Be Aa ?_ | refine Bl Aa ?_ | refine Bd Aa ?_ | refine Ak Aa ?_ | refine Aj Aa ?_ | refine Aw Aa (fun hc => ?_) (fun hc => ?_) | refine Cg Aa ?_ | refine Bz Aa ?_ | refine Bu Aa ?_ | refine Bk Aa ?_ | refine Bw Aa ?_ | refine Bh Aa ?_ | refine Bc Aa ?_ | refine Au Aa ?_ | refine Cp Aa ?_ | refine Ar Aa ?_) <;> refine Ad ?_) | ((first | refine Ay Aa Ab hS ?_ | refine Ao Aa Ab hS ?_ | refine As Aa Ab hS ?_); clear hS; intro b w hS; refine Ad ?_) | ((first | refine Br Aa Ab hS ?_ | refine Ap Aa Ab hS ?_ | refine Aq Aa Ab hS ?_); clear hS; intro w hS; refine Ad ?_)) | ((fail_if_success (with_reducible refine Ac ?_)); first | go_step | go_step3 | rw [Exit.noGoto_normal] | rw [Exit.noGoto_ret] | rw [Exit.noGoto_exit]))
      refine s_call Aa (by rfl) (by rfl) (by rfl) (by rfl) (by rfl) (by infer_instance) (hdr _ (hkv.below hS.below) (hCA _ _ hS)) ?_
      rintro e w2 ⟨ok2, cnt2, pv2, l2, rfl, hR2, hok2, ht2, hf2, hB⟩
      refine ⟨_, rfl, ?_⟩
      refine Ad ?_
      have hol := okP_dec lX hok (fun h => (ht1 h).2) (fun h => (hf1 h).2)
      obtain ⟨rfl, rfl, rfl⟩ := dec_same hok hok2 ht1 hf1 ht2 hf2
      have hP1 := (hR1.puts hol).below hB
      have hP2 := hR2.puts hol
      obtain ⟨p6, c6, hp6⟩ := hR1.slice
      obtain ⟨p7, c7, hp7⟩ := hR2.slice
      subst hp6 hp7
      have hl2 : l2.length ≤ 1000000 := by
        cases ok2 with
        | false => rw [(hf1 rfl).2]; simp
        | true => rw [(ht1 rfl).2, putsD_len]; have := saysR_le (celX X 0); omega
      replace hS := Ab.call hS hB
      have hsm : ∀ w, Below w2.heap.size w2 w → Calls Try.prog 21 #[.slice p6 l2.length c6, .slice p7 l2.length c7] w fun e w' => e = .returned (.bool true) ∧ Below w.heap.size w w' := fun w hb => by
        have := same_pts l2 l2 hl2 _ _ w (hP1.below hb) (hP2.below hb)
        rwa [decide_eq_true (rfl : l2 = l2)] at this
      have hno : (!(ok2 == ok2)) = false := by simp
      clear hB hdr hok hok2 ht1 ht2 hf1 hf2 hol hR1 hR2 hC1 hl2
      have hlF := firX_len lX
      have hpf := fun w h => putsFn_any X k (.slice (some ⟨g, 0, none⟩) k c4) w h
      have hit := fun gm gc W0 h1 h2 => puts1_iter (firX X k) hlF gm gc W0 h1 h2
      have hle := saysR_le (firX X k)
      have hsl := saysL_len (firX X k)
      have hsn := @saysL_at (firX X k)
      obtain ⟨q, hq⟩ : ∃ q, saysR (firX X k) = q := ⟨_, rfl⟩
      simp only [hq] at hsn hit
      rw [hq] at hle hsl
      by_cases h0 : 0 < k
      · obtain ⟨x1, x2, x3⟩ := celX_cut (o := 0) (i := 0) lX h0 (own_cells (sp := sp4))
        have lF0 := celX_len lX h0
        have hsy := fun w => says_any (celX X 0) lF0 w
        rw [show celX X 0 = firX X k from (if_pos h0).symm] at x2 hsy
        clear x3 lF0
        repeat' (first | ((with_reducible refine Ac ?_); first | ((first | refine Ai Aa ?_ | refine Al Aa ?_ | refine Af Aa ?_ | refine Av Aa Ab hS ?_ (hv := by first | rfl | exact Bi | (rw [Array.getElem?_toList]; exact x2)) | refine Ba Aa Ab hS ?_ (hv := by first | exact Bo _ _ (by (try simp only [Bn, Bg, Bm, List.length_append, List.length_set, zs_len, List.length_take, List.length_drop, List.length_cons, List.length_nil]); first | done | rfl | omega) | (exact x2) | rfl) | refine Ag Aa ?_ | refine Ae Aa ?_ | refine Be Aa ?_ | refine Bl Aa ?_ | refine Bd Aa ?_ | refine Ak Aa ?_ | refine Aj Aa ?_ | refine Aw Aa (fun hc => ?_) (fun hc => ?_) | refine Cg Aa ?_ | refine Bz Aa ?_ | refine Bu Aa ?_ | refine Bk Aa ?_ | refine Bw Aa ?_ | refine Bh Aa ?_ | refine Bc Aa ?_ | refine Au Aa ?_ | refine Cp Aa ?_ | refine Ar Aa ?_) <;> refine Ad ?_) | ((first | refine Ay Aa Ab hS ?_ | refine Ao Aa Ab hS ?_ | refine As Aa Ab hS ?_); clear hS; intro b w hS; refine Ad ?_) | ((first | refine Br Aa Ab hS ?_ | refine Ap Aa Ab hS ?_ | refine Aq Aa Ab hS ?_); clear hS; intro w hS; refine Ad ?_) | (refine Stp.go Aa (by rfl) (by rfl) (r_neBo (by rfl) (by rfl) (by rfl) Try.underlying4 hno) ?_; refine Ad ?_) | (refine Ce Aa Ab hS (hsm _ (Below.refl _ _)) ?_; clear hS; intro w hS; refine Ad ?_)) | ((fail_if_success (with_reducible refine Ac ?_)); first | go_step | go_step3 | rw [Exit.noGoto_normal] | rw [Exit.noGoto_ret] | rw [Exit.noGoto_exit]))
        refine s_call Aa (by rfl) (by rfl) (by rfl) (by rfl) (by rfl) (by infer_instance) (hsy _) ?_
        rintro e w3 ⟨sv, rfl, hR, hB⟩
        refine ⟨_, rfl, ?_⟩
        refine Ad ?_
        obtain ⟨Lr3, hR, hS⟩ := hR.join Ab hS hB
        replace hS := Ab.perm hS (List.perm_append_comm (l₁ := Lr3) (l₂ := [_, _, _, _]))
        simp only [List.cons_append, List.nil_append] at hS
        obtain ⟨p3, c3, hp3⟩ := hR.slice
        subst hp3
        clear hB hsy x1 x2
        repeat' (first | ((with_reducible refine Ac ?_); first | ((first | refine Ai Aa ?_ | refine Al Aa ?_ | refine Af Aa ?_ | refine Av Aa Ab hS ?_ | refine Ba Aa Ab hS ?_ | refine Ag Aa ?_ | refine Ae Aa ?_ | refine Be Aa ?_ | refine Bl Aa ?_ | refine Bd Aa ?_ | refine Ak Aa ?_ | refine Aj Aa ?_ | refine Aw Aa (fun hc => ?_) (fun hc => ?_) | refine Cg Aa ?_ | refine Bz Aa ?_ | refine Bu Aa ?_ | refine Bk Aa ?_ | refine Bw Aa ?_ | refine Bh Aa ?_ | refine Bc Aa ?_ | refine Au Aa ?_ | refine Cp Aa ?_ | refine Ar Aa ?_) <;> refine Ad ?_) | ((first | refine Ay Aa Ab hS ?_ | refine Ao Aa Ab hS ?_ | refine As Aa Ab hS ?_); clear hS; intro b w hS; refine Ad ?_) | ((first | refine Br Aa Ab hS ?_ | refine Ap Aa Ab hS ?_ | refine Aq Aa Ab hS ?_); clear hS; intro w hS; refine Ad ?_)) | ((fail_if_success (with_reducible refine Ac ?_)); first | go_step | go_step3 | rw [Exit.noGoto_normal] | rw [Exit.noGoto_ret] | rw [Exit.noGoto_exit]))
        replace hS := hS.erase 2
        simp only [List.eraseIdx_cons_succ, List.eraseIdx_cons_zero] at hS
        rename_i bS z1 z2 z3 z4 z5 z6 z7 z8 z9 z10
        clear z3 z4
        obtain ⟨sv, hsv⟩ : ∃ sv, Value.slice p3 (saysL (firX X k)).length c3 = sv := ⟨_, rfl⟩
        rw [hsv] at hS hR
        clear hsv
        obtain ⟨p3, c3, hp3⟩ := hR.slice
        rw [hsl] at hp3
        subst hp3
        have hC3 : CellsAt _ (.slice (some ⟨g, 0, none⟩) k c4) X k := CellsAt.own lX k1 (hS.blk 2 rfl)
        refine s_call Aa (by rfl) (by rfl) (by rfl) (by rfl) (by rfl) (by infer_instance) (hpf _ hC3) ?_
        rintro e w5 ⟨gm, gc, rfl, m1, m2, m3, m4, m5, hB⟩
        refine ⟨_, rfl, ?_⟩
        refine Ad ?_
        obtain ⟨F, hFF⟩ : ∃ F, firX X k = F := ⟨_, rfl⟩
        rw [hFF] at hlF hit hsl hR m4 m5
        simp only [hFF] at hsn
        obtain ⟨L0, hL0⟩ : ∃ L : List Blk, (b, (#[.int .i64 0] : Array Value), 3) :: (bS, (#[.slice p3 q c3] : Array Value), 59) :: (g, (X.map bv ++ sp4).toArray, 30) :: (bR, (#[.bool false] : Array Value), 4) :: Lr3 = L := ⟨_, rfl⟩
        rw [hL0] at hS
        have hlow : ∀ x ∈ L0.map (·.1), x < _ := fun x hx => Ab.lt hS hx
        replace hS := Ab.call hS hB
        clear hC3 hpf hB
        repeat' (first | ((with_reducible refine Ac ?_); first | ((first | refine Ai Aa ?_ | refine Al Aa ?_ | refine Af Aa ?_ | refine Av Aa Ab hS ?_ | refine Ba Aa Ab hS ?_ | refine Ag Aa ?_ | refine Ae Aa ?_ | refine Be Aa ?_ | refine Bl Aa ?_ | refine Bd Aa ?_ | refine Ak Aa ?_ | refine Aj Aa ?_ | refine Aw Aa (fun hc => ?_) (fun hc => ?_) | refine Cg Aa ?_ | refine Bz Aa ?_ | refine Bu Aa ?_ | refine Bk Aa ?_ | refine Bw Aa ?_ | refine Bh Aa ?_ | refine Bc Aa ?_ | refine Au Aa ?_ | refine Cp Aa ?_ | refine Ar Aa ?_) <;> refine Ad ?_) | ((first | refine Ay Aa Ab hS ?_ | refine Ao Aa Ab hS ?_ | refine As Aa Ab hS ?_); clear hS; intro b w hS; refine Ad ?_) | ((first | refine Br Aa Ab hS ?_ | refine Ap Aa Ab hS ?_ | refine Aq Aa Ab hS ?_); clear hS; intro w hS; refine Ad ?_)) | ((fail_if_success (with_reducible refine Ac ?_)); first | go_step | go_step3 | rw [Exit.noGoto_normal] | rw [Exit.noGoto_ret] | rw [Exit.noGoto_exit]))
        refine wp_range_plain (els := fun j => #[.int .i64 (j : Int), .int .i64 (numR F (10 + 2 * j) : Int)]) (N := some q) (R := [gm, gc]) (gf := 45) (lb := #[.pointer (some ⟨gm, 0, none⟩), .pointer (some ⟨gc, 0, none⟩)]) (by rfl) (by intro args w; kernel_rfl) (hit gm gc w5 m4 m5) (Below.refl _ _) (fun _ => rfl)
          (fun j L => j ≤ q ∧ L = (b, (#[.int .i64 (j : Int)] : Array Value), 3) :: (bS, (#[.slice p3 q c3] : Array Value), 59) :: (g, (X.map bv ++ sp4).toArray, 30) :: (bR, (#[.bool false] : Array Value), 4) :: Lr3)
          (fun _ _ => False) 0 (fun h => by cases h) L0 ?I0 ?H0 ?R0 ?act1 ?assign ?body ?done ?stop
        case I0 => exact ⟨by omega, hL0.symm⟩
        case H0 => exact hS.holds
        case R0 =>
          intro x hx
          simp only [List.mem_cons, List.not_mem_nil, or_false] at hx
          rcases hx with rfl | rfl
          · exact ⟨blk_lt m4, fun h => absurd (hlow _ h) (by omega)⟩
          · exact ⟨blk_lt m5, fun h => absurd (hlow _ h) (by omega)⟩
        case assign =>
          intro l0 j L W hI hIn K hK
          have hSL := hS
          have hS := hIn.round
          simp only [List.zip_toArray, List.zip_cons_cons, List.zip_nil_right, List.foldl_toArray', List.foldl_cons, List.foldl_nil, List.setIfInBounds_toArray, List.set_cons_zero, List.set_cons_succ]
          repeat' (first | ((with_reducible refine cons_in ?_); first | ((first | refine Ai Am ?_ | refine Al Am ?_ | refine Af Am ?_ | refine Av Am own_in hS ?_ | refine Ba Am own_in hS ?_ | refine Ag Am ?_ | refine Ae Am ?_ | refine Be Am ?_ | refine g_cap Am ?_ | refine Bl Am ?_ | refine Bd Am ?_ | refine Cj Am ?_ | refine Ca Am ?_ | refine Cz Am ?_ | refine Cq Am ?_ | refine Ak Am ?_ | refine Aj Am ?_ | refine Aw Am (fun hc => ?_) (fun hc => ?_) | refine Cg Am ?_ | refine Bz Am ?_ | refine Ck Am ?_ | refine Cd Am ?_ | refine Az Am ?_ | refine g_field1 Am ?_ | refine g_fieldR Am ?_ | refine Bx Am ?_ | refine Bu Am ?_ | refine Ax Am ?_ | refine Dj Am ?_ | refine Bq Am ?_ | refine Bk Am ?_ | refine Bw Am ?_ | refine Bh Am ?_ | refine Bc Am ?_ | refine Au Am ?_) <;> refine Ad ?_) | ((first | refine Ay Am own_in hS ?_ | refine Cu Am own_in hS ?_ | refine Ao Am own_in hS ?_ | refine As Am own_in hS ?_ | refine g_make Am own_in hS ?_); clear hS; intro b w hS; refine Ad ?_) | ((first | refine Br Am own_in hS ?_ | refine Ap Am own_in hS ?_); clear hS; intro w hS; refine Ad ?_)) | ((fail_if_success (with_reducible refine cons_in ?_)); first | gi_step | (with_reducible refine wpIn_scope_wide ?_) | (with_reducible refine wpIn_label ?_) | rw [Exit.noGoto_normal] | rw [Exit.noGoto_ret] | rw [Exit.noGoto_exit]))
          exact hK _ hS
        case body =>
          rintro l0 j L W ⟨hj, rfl⟩ hIn hN
          have hlt2 := hN _ rfl
          have hSL := hS.range hIn
          replace hS := hIn.round
          rcases hR with ⟨_, e0, _⟩ | ⟨g3, c5, sp5, e3, j1, j2, j3, rfl⟩
          · rw [e0] at hsl; simp at hsl; omega
          · rw [hsl] at e3
            cases e3
            have hgat : (((saysL F).flatMap natC ++ sp5).toArray)[j]? = some (.int .i64 (numR F (10 + 2 * j) : Int)) := by
              rw [natC_map, List.getElem?_toArray, List.getElem?_append_left (by rw [List.length_map]; omega), List.getElem?_map, hsn hlt2]; rfl
            obtain ⟨N, hN2⟩ : ∃ N, numR F (10 + 2 * j) = N := ⟨_, rfl⟩
            rw [hN2] at hgat ⊢
            have hsg : j < csz (((saysL F).flatMap natC ++ sp5).toArray) := by rw [csz_is]; exact (Array.getElem?_eq_some_iff.1 hgat).1
            repeat' (first | ((with_reducible refine cons_in ?_); first | ((first | refine Ai Am ?_ | refine Al Am ?_ | refine Af Am ?_ | refine Av Am own_in hS ?_ (hv := by first | rfl | exact Bi | (rw [Array.getElem?_toList]; exact hgat)) | refine Ba Am own_in hS ?_ (hv := by first | exact Bo _ _ (by (try simp only [Bn, Bg, Bm, List.length_append, List.length_set, zs_len, List.length_take, List.length_drop, List.length_cons, List.length_nil]); first | done | rfl | omega) | (exact hgat) | rfl) | refine Ag Am ?_ | refine Ae Am ?_ | refine Be Am ?_ | refine g_cap Am ?_ | refine Bl Am ?_ | refine Bd Am ?_ | refine Cj Am ?_ | refine Ca Am ?_ | refine Cz Am ?_ | refine Cq Am ?_ | refine Ak Am ?_ | refine Aj Am ?_ | refine Aw Am (fun hc => ?_) (fun hc => ?_) | refine Cg Am ?_ | refine Bz Am ?_ | refine Ck Am ?_ | refine Cd Am ?_ | refine Az Am ?_ | refine g_field1 Am ?_ (hv' := by first | rfl | exact Bi | (rw [Array.getElem?_toList]; exact hgat)) | refine g_fieldR Am ?_ | refine Bx Am ?_ | refine Bu Am ?_ | refine Ax Am ?_ | refine Dj Am ?_ | refine Bq Am ?_ | refine Bk Am ?_ | refine Bw Am ?_ | refine Bh Am ?_ | refine Bc Am ?_ | refine Au Am ?_) <;> refine Ad ?_) | ((first | refine Ay Am own_in hS ?_ | refine Cu Am own_in hS ?_ | refine Ao Am own_in hS ?_ | refine As Am own_in hS ?_ | refine g_make Am own_in hS ?_); clear hS; intro b w hS; refine Ad ?_) | ((first | refine Br Am own_in hS ?_ | refine Ap Am own_in hS ?_); clear hS; intro w hS; refine Ad ?_)) | ((fail_if_success (with_reducible refine cons_in ?_)); first | gi_step | (with_reducible refine wpIn_scope_wide ?_) | (with_reducible refine wpIn_label ?_) | rw [Exit.noGoto_normal] | rw [Exit.noGoto_ret] | rw [Exit.noGoto_exit]))
            exact ⟨_, hS, by omega, rfl⟩
        case stop => exact fun D c' L W h => h.elim
        case done =>
          rintro D N1 L W hm' ⟨hj, rfl⟩ hIn hD hD0
          obtain rfl := Option.some.inj hm'
          have hDw : w0.heap.size ≤ D := Nat.le_trans hS.below.size hD0
          replace hS : StD w0 D W _ := ⟨hS.range hIn, hD⟩
          repeat' (first | ((with_reducible refine Ac ?_); first | ((first | refine Ai Aa ?_ | refine Al Aa ?_ | refine Af Aa ?_ | refine Av Aa own_stD hS ?_ | refine Ba Aa own_stD hS ?_ | refine Ag Aa ?_ | refine Ae Aa ?_ | refine Be Aa ?_ | refine Bl Aa ?_ | refine Bd Aa ?_ | refine Ak Aa ?_ | refine Aj Aa ?_ | refine Aw Aa (fun hc => ?_) (fun hc => ?_) | refine Cg Aa ?_ | refine Bz Aa ?_ | refine Bu Aa ?_ | refine Bk Aa ?_ | refine Bw Aa ?_ | refine Bh Aa ?_ | refine Bc Aa ?_ | refine Au Aa ?_ | refine Cp Aa ?_ | refine Ar Aa ?_) <;> refine Ad ?_) | ((first | refine Ay Aa own_stD hS ?_ | refine Ao Aa own_stD hS ?_ | refine As Aa own_stD hS ?_); clear hS; intro b w hS; refine Ad ?_) | ((first | refine Br Aa own_stD hS ?_ | refine Ap Aa own_stD hS ?_ | refine Aq Aa own_stD hS ?_); clear hS; intro w hS; refine Ad ?_)) | ((fail_if_success (with_reducible refine Ac ?_)); first | go_step | go_step3 | rw [Exit.noGoto_normal] | rw [Exit.noGoto_ret] | rw [Exit.noGoto_exit]))
          refine postMR (.inl rfl) rfl hS.2 ?_
          have hS3 := hS.shut hDw
          exact post_one Try.results5 (.inl rfl) _ _ _ _ rfl rfl (hS3.blk 3 rfl) ⟨rfl, hS3.below⟩
      · have hF0 : saysL (firX X k) = [] := by rw [show firX X k = zs 128 from if_neg h0]; exact saysL_zero
        repeat' (first | ((with_reducible refine Ac ?_); first | ((first | refine Ai Aa ?_ | refine Al Aa ?_ | refine Af Aa ?_ | refine Av Aa Ab hS ?_ | refine Ba Aa Ab hS ?_ | refine Ag Aa ?_ | refine Ae Aa ?_ | refine Be Aa ?_ | refine Bl Aa ?_ | refine Bd Aa ?_ | refine Ak Aa ?_ | refine Aj Aa ?_ | refine Aw Aa (fun hc => ?_) (fun hc => ?_) | refine Cg Aa ?_ | refine Bz Aa ?_ | refine Bu Aa ?_ | refine Bk Aa ?_ | refine Bw Aa ?_ | refine Bh Aa ?_ | refine Bc Aa ?_ | refine Au Aa ?_ | refine Cp Aa ?_ | refine Ar Aa ?_) <;> refine Ad ?_) | ((first | refine Ay Aa Ab hS ?_ | refine Ao Aa Ab hS ?_ | refine As Aa Ab hS ?_); clear hS; intro b w hS; refine Ad ?_) | ((first | refine Br Aa Ab hS ?_ | refine Ap Aa Ab hS ?_ | refine Aq Aa Ab hS ?_); clear hS; intro w hS; refine Ad ?_) | (refine Stp.go Aa (by rfl) (by rfl) (r_neBo (by rfl) (by rfl) (by rfl) Try.underlying4 hno) ?_; refine Ad ?_) | (refine Ce Aa Ab hS (hsm _ (Below.refl _ _)) ?_; clear hS; intro w hS; refine Ad ?_)) | ((fail_if_success (with_reducible refine Ac ?_)); first | go_step | go_step3 | rw [Exit.noGoto_normal] | rw [Exit.noGoto_ret] | rw [Exit.noGoto_exit]))
        rename_i bB z1 bS z2 z3 z4 z5 z6 z7 z8
        replace hS := Ab.perm hS (List.Perm.cons _ (List.Perm.cons _ (List.perm_append_comm (l₁ := [_]) (l₂ := [_, _]))))
        simp only [List.cons_append, List.nil_append] at hS
        have hR : OwL natC 1 3 (saysL (firX X k)) (.slice (some ⟨bB, 0, none⟩) 0 0) [(bB, #[], 3)] := .inr ⟨bB, 0, [], by rw [hF0]; rfl, by rw [hF0]; exact Nat.le_refl _, by decide, by rw [hF0]; rfl, by rw [hF0]; rfl⟩
        obtain ⟨sv, hsv⟩ : ∃ sv, Value.slice (some ⟨bB, 0, none⟩) 0 0 = sv := ⟨_, rfl⟩
        obtain ⟨Lr3, hL3⟩ : ∃ L : List Blk, [(bB, (#[] : Array Value), 3)] = L := ⟨_, rfl⟩
        rw [hL3] at hS hR
        rw [hsv] at hS hR
        clear hsv hL3 hF0
        obtain ⟨p3, c3, hp3⟩ := hR.slice
        rw [hsl] at hp3
        subst hp3
        have hC3 : CellsAt _ (.slice (some ⟨g, 0, none⟩) k c4) X k := CellsAt.own lX k1 (hS.blk 2 rfl)
        refine s_call Aa (by rfl) (by rfl) (by rfl) (by rfl) (by rfl) (by infer_instance) (hpf _ hC3) ?_
        rintro e w5 ⟨gm, gc, rfl, m1, m2, m3, m4, m5, hB⟩
        refine ⟨_, rfl, ?_⟩
        refine Ad ?_
        obtain ⟨F, hFF⟩ : ∃ F, firX X k = F := ⟨_, rfl⟩
        rw [hFF] at hlF hit hsl hR m4 m5
        simp only [hFF] at hsn
        obtain ⟨L0, hL0⟩ : ∃ L : List Blk, (b, (#[.int .i64 0] : Array Value), 3) :: (bS, (#[.slice p3 q c3] : Array Value), 59) :: (g, (X.map bv ++ sp4).toArray, 30) :: (bR, (#[.bool false] : Array Value), 4) :: Lr3 = L := ⟨_, rfl⟩
        rw [hL0] at hS
        have hlow : ∀ x ∈ L0.map (·.1), x < _ := fun x hx => Ab.lt hS hx
        replace hS := Ab.call hS hB
        clear hC3 hpf hB
        repeat' (first | ((with_reducible refine Ac ?_); first | ((first | refine Ai Aa ?_ | refine Al Aa ?_ | refine Af Aa ?_ | refine Av Aa Ab hS ?_ | refine Ba Aa Ab hS ?_ | refine Ag Aa ?_ | refine Ae Aa ?_ | refine Be Aa ?_ | refine Bl Aa ?_ | refine Bd Aa ?_ | refine Ak Aa ?_ | refine Aj Aa ?_ | refine Aw Aa (fun hc => ?_) (fun hc => ?_) | refine Cg Aa ?_ | refine Bz Aa ?_ | refine Bu Aa ?_ | refine Bk Aa ?_ | refine Bw Aa ?_ | refine Bh Aa ?_ | refine Bc Aa ?_ | refine Au Aa ?_ | refine Cp Aa ?_ | refine Ar Aa ?_) <;> refine Ad ?_) | ((first | refine Ay Aa Ab hS ?_ | refine Ao Aa Ab hS ?_ | refine As Aa Ab hS ?_); clear hS; intro b w hS; refine Ad ?_) | ((first | refine Br Aa Ab hS ?_ | refine Ap Aa Ab hS ?_ | refine Aq Aa Ab hS ?_); clear hS; intro w hS; refine Ad ?_)) | ((fail_if_success (with_reducible refine Ac ?_)); first | go_step | go_step3 | rw [Exit.noGoto_normal] | rw [Exit.noGoto_ret] | rw [Exit.noGoto_exit]))
        refine wp_range_plain (els := fun j => #[.int .i64 (j : Int), .int .i64 (numR F (10 + 2 * j) : Int)]) (N := some q) (R := [gm, gc]) (gf := 45) (lb := #[.pointer (some ⟨gm, 0, none⟩), .pointer (some ⟨gc, 0, none⟩)]) (by rfl) (by intro args w; kernel_rfl) (hit gm gc w5 m4 m5) (Below.refl _ _) (fun _ => rfl)
          (fun j L => j ≤ q ∧ L = (b, (#[.int .i64 (j : Int)] : Array Value), 3) :: (bS, (#[.slice p3 q c3] : Array Value), 59) :: (g, (X.map bv ++ sp4).toArray, 30) :: (bR, (#[.bool false] : Array Value), 4) :: Lr3)
          (fun _ _ => False) 0 (fun h => by cases h) L0 ?I0b ?H0b ?R0b ?act1b ?assignb ?bodyb ?doneb ?stopb
        case I0b => exact ⟨by omega, hL0.symm⟩
        case H0b => exact hS.holds
        case R0b =>
          intro x hx
          simp only [List.mem_cons, List.not_mem_nil, or_false] at hx
          rcases hx with rfl | rfl
          · exact ⟨blk_lt m4, fun h => absurd (hlow _ h) (by omega)⟩
          · exact ⟨blk_lt m5, fun h => absurd (hlow _ h) (by omega)⟩
        case assignb =>
          intro l0 j L W hI hIn K hK
          have hSL := hS
          have hS := hIn.round
          simp only [List.zip_toArray, List.zip_cons_cons, List.zip_nil_right, List.foldl_toArray', List.foldl_cons, List.foldl_nil, List.setIfInBounds_toArray, List.set_cons_zero, List.set_cons_succ]
          repeat' (first | ((with_reducible refine cons_in ?_); first | ((first | refine Ai Am ?_ | refine Al Am ?_ | refine Af Am ?_ | refine Av Am own_in hS ?_ | refine Ba Am own_in hS ?_ | refine Ag Am ?_ | refine Ae Am ?_ | refine Be Am ?_ | refine g_cap Am ?_ | refine Bl Am ?_ | refine Bd Am ?_ | refine Cj Am ?_ | refine Ca Am ?_ | refine Cz Am ?_ | refine Cq Am ?_ | refine Ak Am ?_ | refine Aj Am ?_ | refine Aw Am (fun hc => ?_) (fun hc => ?_) | refine Cg Am ?_ | refine Bz Am ?_ | refine Ck Am ?_ | refine Cd Am ?_ | refine Az Am ?_ | refine g_field1 Am ?_ | refine g_fieldR Am ?_ | refine Bx Am ?_ | refine Bu Am ?_ | refine Ax Am ?_ | refine Dj Am ?_ | refine Bq Am ?_ | refine Bk Am ?_ | refine Bw Am ?_ | refine Bh Am ?_ | refine Bc Am ?_ | refine Au Am ?_) <;> refine Ad ?_) | ((first | refine Ay Am own_in hS ?_ | refine Cu Am own_in hS ?_ | refine Ao Am own_in hS ?_ | refine As Am own_in hS ?_ | refine g_make Am own_in hS ?_); clear hS; intro b w hS; refine Ad ?_) | ((first | refine Br Am own_in hS ?_ | refine Ap Am own_in hS ?_); clear hS; intro w hS; refine Ad ?_)) | ((fail_if_success (with_reducible refine cons_in ?_)); first | gi_step | (with_reducible refine wpIn_scope_wide ?_) | (with_reducible refine wpIn_label ?_) | rw [Exit.noGoto_normal] | rw [Exit.noGoto_ret] | rw [Exit.noGoto_exit]))
          exact hK _ hS
        case bodyb =>
          rintro l0 j L W ⟨hj, rfl⟩ hIn hN
          have hlt2 := hN _ rfl
          have hSL := hS.range hIn
          replace hS := hIn.round
          rcases hR with ⟨_, e0, _⟩ | ⟨g3, c5, sp5, e3, j1, j2, j3, rfl⟩
          · rw [e0] at hsl; simp at hsl; omega
          · rw [hsl] at e3
            cases e3
            have hgat : (((saysL F).flatMap natC ++ sp5).toArray)[j]? = some (.int .i64 (numR F (10 + 2 * j) : Int)) := by
              rw [natC_map, List.getElem?_toArray, List.getElem?_append_left (by rw [List.length_map]; omega), List.getElem?_map, hsn hlt2]; rfl
            obtain ⟨N, hN2⟩ : ∃ N, numR F (10 + 2 * j) = N := ⟨_, rfl⟩
            rw [hN2] at hgat ⊢
            have hsg : j < csz (((saysL F).flatMap natC ++ sp5).toArray) := by rw [csz_is]; exact (Array.getElem?_eq_some_iff.1 hgat).1
            repeat' (first | ((with_reducible refine cons_in ?_); first | ((first | refine Ai Am ?_ | refine Al Am ?_ | refine Af Am ?_ | refine Av Am own_in hS ?_ (hv := by first | rfl | exact Bi | (rw [Array.getElem?_toList]; exact hgat)) | refine Ba Am own_in hS ?_ (hv := by first | exact Bo _ _ (by (try simp only [Bn, Bg, Bm, List.length_append, List.length_set, zs_len, List.length_take, List.length_drop, List.length_cons, List.length_nil]); first | done | rfl | omega) | (exact hgat) | rfl) | refine Ag Am ?_ | refine Ae Am ?_ | refine Be Am ?_ | refine g_cap Am ?_ | refine Bl Am ?_ | refine Bd Am ?_ | refine Cj Am ?_ | refine Ca Am ?_ | refine Cz Am ?_ | refine Cq Am ?_ | refine Ak Am ?_ | refine Aj Am ?_ | refine Aw Am (fun hc => ?_) (fun hc => ?_) | refine Cg Am ?_ | refine Bz Am ?_ | refine Ck Am ?_ | refine Cd Am ?_ | refine Az Am ?_ | refine g_field1 Am ?_ (hv' := by first | rfl | exact Bi | (rw [Array.getElem?_toList]; exact hgat)) | refine g_fieldR Am ?_ | refine Bx Am ?_ | refine Bu Am ?_ | refine Ax Am ?_ | refine Dj Am ?_ | refine Bq Am ?_ | refine Bk Am ?_ | refine Bw Am ?_ | refine Bh Am ?_ | refine Bc Am ?_ | refine Au Am ?_) <;> refine Ad ?_) | ((first | refine Ay Am own_in hS ?_ | refine Cu Am own_in hS ?_ | refine Ao Am own_in hS ?_ | refine As Am own_in hS ?_ | refine g_make Am own_in hS ?_); clear hS; intro b w hS; refine Ad ?_) | ((first | refine Br Am own_in hS ?_ | refine Ap Am own_in hS ?_); clear hS; intro w hS; refine Ad ?_)) | ((fail_if_success (with_reducible refine cons_in ?_)); first | gi_step | (with_reducible refine wpIn_scope_wide ?_) | (with_reducible refine wpIn_label ?_) | rw [Exit.noGoto_normal] | rw [Exit.noGoto_ret] | rw [Exit.noGoto_exit]))
            exact ⟨_, hS, by omega, rfl⟩
        case stopb => exact fun D c' L W h => h.elim
        case doneb =>
          rintro D N1 L W hm' ⟨hj, rfl⟩ hIn hD hD0
          obtain rfl := Option.some.inj hm'
          have hDw : w0.heap.size ≤ D := Nat.le_trans hS.below.size hD0
          replace hS : StD w0 D W _ := ⟨hS.range hIn, hD⟩
          repeat' (first | ((with_reducible refine Ac ?_); first | ((first | refine Ai Aa ?_ | refine Al Aa ?_ | refine Af Aa ?_ | refine Av Aa own_stD hS ?_ | refine Ba Aa own_stD hS ?_ | refine Ag Aa ?_ | refine Ae Aa ?_ | refine Be Aa ?_ | refine Bl Aa ?_ | refine Bd Aa ?_ | refine Ak Aa ?_ | refine Aj Aa ?_ | refine Aw Aa (fun hc => ?_) (fun hc => ?_) | refine Cg Aa ?_ | refine Bz Aa ?_ | refine Bu Aa ?_ | refine Bk Aa ?_ | refine Bw Aa ?_ | refine Bh Aa ?_ | refine Bc Aa ?_ | refine Au Aa ?_ | refine Cp Aa ?_ | refine Ar Aa ?_) <;> refine Ad ?_) | ((first | refine Ay Aa own_stD hS ?_ | refine Ao Aa own_stD hS ?_ | refine As Aa own_stD hS ?_); clear hS; intro b w hS; refine Ad ?_) | ((first | refine Br Aa own_stD hS ?_ | refine Ap Aa own_stD hS ?_ | refine Aq Aa own_stD hS ?_); clear hS; intro w hS; refine Ad ?_)) | ((fail_if_success (with_reducible refine Ac ?_)); first | go_step | go_step3 | rw [Exit.noGoto_normal] | rw [Exit.noGoto_ret] | rw [Exit.noGoto_exit]))
          refine postMR (.inl rfl) rfl hS.2 ?_
          have hS3 := hS.shut hDw
          exact post_one Try.results5 (.inl rfl) _ _ _ _ rfl rfl (hS3.blk 3 rfl) ⟨rfl, hS3.below⟩
end Go.Proofs.Ytcjncidahjneaaa

namespace Go.Proofs.Ytcjncidahjneaaa
open Go.ChangeShapes Go.WideShapes Go.ChangeAt Go.RowKit

theorem Try.own : ownKnob Try.prog.godebug = none := by kernel_rfl
theorem Try.laidOut : laidOutB Try.prog = true := by kernel_rfl

set_option maxRecDepth 100000 in
theorem redoDecodes_lifted (os : Os) (started : os.Started) (H : Type) (enc : TypeId × Value → H) :
    ReturnsInHanded {} Try.checked os 5 .any (Rows.redoDecodesSpec.pre6 enc Try.prog Try.f5 Rows.redoDecodesRow.domain false) (Rows.redoDecodesSpec.post enc Try.prog Try.f5 false true false false) := by
  refine law_lift (C := Try.checked) Try.own started (by kernel_rfl) Try.func5
    (ChangeSpec.witness6 (enc := enc) (C := Try.checked) false ⟨#[], #[.slice none 0 0, .slice none 0 0], []⟩ 8 (by kernel_rfl) (by kernel_rfl) (by kernel_rfl) (by kernel_rfl))
    rfl (by kernel_rfl) Try.underlying4 (fun ds h => by match ds, h with | [a, b], _ => exact ⟨rfl, rfl, rfl⟩) Try.laidOut (by kernel_rfl) ?_
  intro W base args ds p hval0 hA0 hlt hsz0
  have hval : ∀ (j : Nat) t v, Try.f5.params[j]? = some t → args[j]? = some v → Value.okWide Try.prog W .any base t v := hval0
  have hA : DataW.TrodAll enc Try.prog W 0 (fun _ => true) true Try.f5.params.toList args.toList ds p := hA0
  have hsz : (DataW.weightsEach Try.prog Try.f5.params.toList ds).all (· ≤ reachBytes) = true := hsz0
  rw [Try.params5] at hA hval hsz
  obtain ⟨v0, v1, d0, d1, p0, p1, rfl, rfl, rfl, h0, h1⟩ := trodAll_two hA
  obtain ⟨x0, lx0, mx0⟩ := open_bytes Try.underlying22 Try.underlying5 (by kernel_rfl) (okWide_slice Try.underlying22 (hval 0 _ v0 rfl rfl)) h0
  obtain ⟨x1, lx1, mx1⟩ := open_txs (okWide_slice Try.underlying56 (hval 1 _ v1 rfl rfl)) h1
  exact redoDecodes_any x0 x1 v0 v1 W lx0 lx1

theorem redoDecodes_holds : Rows.RedoDecodesSaid :=
  OpenClaim.holds_of_wide 5 Try.f5 rfl rfl rfl rfl rfl rfl rfl ⟨rfl, rfl, rfl, rfl, rfl⟩ rfl rfl rfl rfl rfl (by kernel_rfl) Try.func5 (by kernel_rfl)
    (of_decide_eq_true (by kernel_rfl)) (by unfold Func.isWrapper; rw [if_neg (by decide +kernel)]; exact ⟨rfl, rfl⟩)
    (fun os started H enc _ => redoDecodes_lifted os started H enc)

end Go.Proofs.Ytcjncidahjneaaa
